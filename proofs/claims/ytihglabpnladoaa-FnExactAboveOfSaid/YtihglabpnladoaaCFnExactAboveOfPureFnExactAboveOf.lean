/- The plain proof: what the printed functions tell. Conditions: none beyond the statement's own. -/
import Derived.Test.YtihglabpnladoaaCFnExactAboveOfPureMarkClass
import Derived.Test.YtihglabpnladoaaCFnExactAboveOfPureFnAboveOf
import Derived.Test.YtihglabpnladoaaCFnExactAboveOfPTx12
namespace Go.Proofs.Ytihglabpnladoaa.Pure
open Go.RowKit Go.Proofs.Ytihglabpnladoaa.PT Go.Proofs.YtihglabpnladoaaW.PrintWords Go.Proofs.YtihglabpnladoaaW.PrintLast
set_option linter.unusedVariables false
theorem FnExactAboveOf_j0 (l : List S78) (a : Int) (w : List Int) (hg : (l.length : Int) ≤ 1048576) (sm : SmallT (conv l)) (hw : Above (conv l) a w) (hl : (w.length : Int) ≤ 8) :
    Evs (fun k => laws_FnExactAboveOf.j0 k a w w false l) (fun r => r = true) := by
  refine Evs.step (fun k => by rw [laws_FnExactAboveOf.j0]) (Evs.no (by simp) ?_)
  refine Evs.bind (markInt_ev w 1 (by omega) (by omega) (by omega)) (fun p ⟨p1, p2, p3⟩ => ?_)
  have held : Evs (fun k => laws_heldIntS.f k p.2 1) (fun r => r = p.1) := (heldInt_ev p.2 1 (by omega) (by omega) (by omega) p3).imp fun r hr => by rw [hr, p1, p2]
  refine Evs.bind held (fun r hr => Evs.no (by omega) (Evs.yes hr (Evs.bind (toTree_ev l hg) (fun t ht => ?_))))
  subst ht
  refine Evs.bind (AboveOf_ev _ a sm) (fun v hv => ?_)
  have e := hv.uniq hw
  subst e
  refine Evs.bind (eqInt_ev v (by omega)) (fun c hc => Evs.yes hc ?_)
  exact Evs.bind held (fun r hr => Evs.no (by omega) (Evs.yes hr (Evs.ret rfl)))
theorem FnExactAboveOf : ∀ (l0 : List S78), l0.length ≤ maxLen → (∀ y ∈ l0, y.f0.size ≤ maxLen ∧ (Lit.int .i64 y.f1).wf = true) → ∀ (a1 : Int), (Lit.int .i64 a1).wf = true → ∃ k, laws_FnExactAboveOf.f k l0 a1 = some true := by
  intro l hl hs a _
  apply Evs.done
  unfold laws_FnExactAboveOf.f
  refine Evs.bind (szTree_ev l 1048576 hl (fun y hy => (hs y hy).1) (by omega) (by omega)) (fun r hr => Evs.ite (fun _ => Evs.ret rfl) (fun h => ?_))
  have hg := hr.2.2 (by omega)
  have sm := conv_small hg
  refine Evs.bind (toTree_ev l hg.1) (fun t ht => ?_)
  subst ht
  refine Evs.bind (sAboveOf_ev _ a sm) (fun w hw => Evs.bind (toTree_ev l hg.1) (fun t ht => ?_))
  subst ht
  refine Evs.bind (AboveOf_ev _ a sm) (fun v hv => ?_)
  have e := hv.uniq hw
  subst e
  have hlen : (v.length : Int) ≤ 8 := by have := hv.1; omega
  refine Evs.bind (eqInt_ev v (by omega)) (fun c hc => Evs.yes hc (Evs.bind (toTree_ev l hg.1) (fun t ht => ?_)))
  subst ht
  have hcl : ((conv l).length : Int) ≤ 1048576 := by rw [conv_length]; exact hg.1
  refine Evs.bind (eqTree_ev _ (by omega)) (fun c hc => Evs.yes hc (Evs.bind (markTree_ev _ hcl) (fun p ⟨p1, p2⟩ => Evs.no (by omega) (Evs.bind (eqInt_ev v (by omega)) (fun d hd => ?_)))))
  subst hd
  exact FnExactAboveOf_j0 l a v hg.1 sm hv hlen
end Go.Proofs.Ytihglabpnladoaa.Pure
