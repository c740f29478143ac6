/- The plain proof: what the printed functions tell. Conditions: none beyond the statement's own. -/
import Derived.Test.YtdjdfflpdngohaaCFnExactInnerTracePureMarkFrame
import Derived.Test.YtdjdfflpdngohaaCFnExactInnerTracePureInner
import Derived.Test.YtdjdfflpdngohaaCFnExactInnerTracePTx6
namespace Go.Proofs.Ytdjdfflpdngohaa.Pure
open Go.RowKit Go.Proofs.Ytdjdfflpdngohaa.PT Go.Proofs.YtdjdfflpdngohaaW.PrintWords Go.Proofs.YtdjdfflpdngohaaW.PrintLast
set_option linter.unusedVariables false
theorem bne_self (b : Bool) : (b != b) = false := by cases b <;> rfl
theorem FnExactInnerTrace_j1 (l : List S41) (n : ByteArray) (w : List S35 × Bool) (hg : (l.length : Int) ≤ 1048576) (sm : SmallTr (conv l)) (hw : InnerR (conv l) n w) :
    Evs (fun k => laws_FnExactInnerTrace.j1 k l n w.1 w.2 w.1 false) (fun r => r = true) := by
  have hl := hw.len
  refine Evs.step (fun k => by rw [laws_FnExactInnerTrace.j1]) (Evs.no (by simp) ?_)
  refine Evs.bind (markFrame_ev w.1 1 (by omega) (by omega) (by omega)) (fun p ⟨p1, p2, p3⟩ => ?_)
  have held : Evs (fun k => laws_heldFrameS.f k p.2 1) (fun r => r = p.1) := (heldFrame_ev p.2 1 (by omega) (by omega) (by omega) p3).imp fun r hr => by rw [hr, p1, p2]
  refine Evs.bind held (fun r hr => Evs.no (by omega) (Evs.yes hr (Evs.bind (toFrame_ev l hg) (fun t ht => ?_))))
  subst ht
  refine Evs.bind (InnerTrace_ev _ n sm) (fun v hv => ?_)
  have e := hv.uniq hw
  subst e
  refine Evs.bind (eqFrame_ev v.1 (by omega)) (fun c hc => Evs.yes hc ?_)
  rw [bne_self]
  refine Evs.step (fun k => by rw [laws_FnExactInnerTrace.j2]) (Evs.no (by simp) ?_)
  exact Evs.bind held (fun r hr => Evs.no (by omega) (Evs.yes hr (Evs.ret rfl)))
theorem FnExactInnerTrace : ∀ (l0 : List S41), l0.length ≤ maxLen → (∀ y ∈ l0, y.f0.size ≤ maxLen ∧ (Lit.int .i64 y.f1).wf = true) → ∀ (a1 : ByteArray), a1.size ≤ maxLen → ∃ k, laws_FnExactInnerTrace.f k l0 a1 = some true := by
  intro l hl hs n _
  apply Evs.done
  unfold laws_FnExactInnerTrace.f
  refine Evs.ite (fun _ => Evs.ret rfl) (fun _ => ?_)
  refine Evs.bind (szFrame_ev l 1048576 hl (fun y hy => (hs y hy).1) (by omega) (by omega)) (fun r hr => Evs.ite (fun _ => Evs.ret rfl) (fun h => ?_))
  have hg := hr.2.2 (by omega)
  have sm := conv_small hg
  refine Evs.bind (toFrame_ev l hg.1) (fun t ht => ?_)
  subst ht
  refine Evs.bind (sInnerTrace_ev _ n sm) (fun w hw => Evs.bind (toFrame_ev l hg.1) (fun t ht => ?_))
  subst ht
  refine Evs.bind (InnerTrace_ev _ n sm) (fun v hv => ?_)
  have e := hv.uniq hw
  subst e
  have hlen := hv.len
  refine Evs.bind (eqFrame_ev v.1 (by omega)) (fun c hc => Evs.yes hc ?_)
  rw [bne_self]
  refine Evs.step (fun k => by rw [laws_FnExactInnerTrace.j0]) (Evs.no (by simp) (Evs.bind (toFrame_ev l hg.1) (fun t ht => ?_)))
  subst ht
  have hcl : ((conv l).length : Int) ≤ 1048576 := by rw [conv_length]; exact hg.1
  refine Evs.bind (eqFrame_ev _ (by omega)) (fun c hc => Evs.yes hc (Evs.bind (markFrame_ev _ 1 (by omega) (by omega) (by omega)) (fun p ⟨p1, p2, _⟩ => Evs.no (by omega) (Evs.bind (eqFrame_ev v.1 (by omega)) (fun d hd => Evs.yes hd ?_)))))
  rw [bne_self]
  exact FnExactInnerTrace_j1 l n v hg.1 sm hv
end Go.Proofs.Ytdjdfflpdngohaa.Pure
