/- The plain proof: what the printed functions tell. Conditions: none beyond the statement's own. -/
import Derived.Test.YtimogbghkmhhgaaCFnExactHideFuncsPureWMarkFrame
import Derived.Test.YtimogbghkmhhgaaCFnExactHideFuncsPureWExString
import Derived.Test.YtimogbghkmhhgaaCFnExactHideFuncsPureWHide
import Derived.Test.YtimogbghkmhhgaaCFnExactHideFuncsPWx8
namespace Go.Proofs.Ytimogbghkmhhgaa.Pure
open Go.RowKit Go.Proofs.Ytimogbghkmhhgaa.PW Go.Proofs.YtimogbghkmhhgaaW.PrintWords Go.Proofs.YtimogbghkmhhgaaW.PrintLast
set_option linter.unusedVariables false
theorem FnExactHideFuncs_j0 (l : List S40) (n : List ByteArray) (w : List S34) (hg : (l.length : Int) ≤ 1048576) (hn : (n.length : Int) ≤ 1048576) (sm : SmallTr (conv l)) (hw : HideR (conv l) n w) :
    Evs (fun k => laws_FnExactHideFuncs.j0 k l n w w false) (fun r => r = true) := by
  have hl := hw.len
  refine Evs.step (fun k => by rw [laws_FnExactHideFuncs.j0]) (Evs.no (by simp) ?_)
  refine Evs.bind (markFrame_ev w 1 (by omega) (by omega) (by omega)) (fun p ⟨p1, p2, p3⟩ => ?_)
  have held : Evs (fun k => laws_heldFrameS.f k p.2 1) (fun r => r = p.1) := (heldFrame_ev p.2 1 (by omega) (by omega) (by omega) p3).imp fun r hr => by rw [hr, p1, p2]
  refine Evs.bind held (fun r hr => Evs.no (by omega) (Evs.yes hr (Evs.bind (toFrame_ev l hg) (fun t ht => ?_))))
  subst ht
  refine Evs.bind (toString_ev n hn) (fun u hu => ?_)
  subst hu
  refine Evs.bind (HideFuncs_ev _ n sm (by omega)) (fun v hv => ?_)
  have e := hv.uniq hw
  subst e
  refine Evs.bind (eqFrame_ev v (by omega)) (fun c hc => Evs.yes hc ?_)
  exact Evs.bind held (fun r hr => Evs.no (by omega) (Evs.yes hr (Evs.ret rfl)))
theorem FnExactHideFuncs : ∀ (l0 : List S40), l0.length ≤ maxLen → (∀ y ∈ l0, y.f0.size ≤ maxLen ∧ (Lit.int .i64 y.f1).wf = true) → ∀ (l1 : List ByteArray), l1.length ≤ maxLen → (∀ y ∈ l1, y.size ≤ maxLen) → ∃ k, laws_FnExactHideFuncs.f k l0 l1 = some true := by
  intro l hl hs n hnl hns
  apply Evs.done
  unfold laws_FnExactHideFuncs.f
  refine Evs.bind (szFrame_ev l 1048576 hl (fun y hy => (hs y hy).1) (by omega) (by omega)) (fun r hr => Evs.ite (fun _ => Evs.ret rfl) (fun h => ?_))
  have hg := hr.2.2 (by omega)
  have hr1 := hr.2.1
  have sm := conv_small hg
  refine Evs.bind (szString_ev n r hnl hns (by omega) hr1) (fun q hq => Evs.ite (fun _ => Evs.ret rfl) (fun h => ?_))
  have hn := hq.2.2 (by omega)
  refine Evs.bind (toFrame_ev l hg.1) (fun t ht => ?_)
  subst ht
  refine Evs.bind (toString_ev n hn) (fun u hu => ?_)
  subst hu
  refine Evs.bind (sHideFuncs_ev _ n sm (by omega)) (fun w hw => Evs.bind (toFrame_ev l hg.1) (fun t ht => ?_))
  subst ht
  refine Evs.bind (toString_ev n hn) (fun u hu => ?_)
  subst hu
  refine Evs.bind (HideFuncs_ev _ n sm (by omega)) (fun v hv => ?_)
  have e := hv.uniq hw
  subst e
  have hlen := hv.len
  refine Evs.bind (eqFrame_ev v (by omega)) (fun c hc => Evs.yes hc (Evs.bind (toFrame_ev l hg.1) (fun t ht => ?_)))
  subst ht
  have hcl : ((conv l).length : Int) ≤ 1048576 := by rw [conv_length]; exact hg.1
  refine Evs.bind (eqFrame_ev _ (by omega)) (fun c hc => Evs.yes hc (Evs.bind (toString_ev n hn) (fun u hu => ?_)))
  subst hu
  refine Evs.bind (eqString_ev n (by omega)) (fun c hc => Evs.yes hc ?_)
  refine Evs.bind (markFrame_ev _ 1 (by omega) (by omega) (by omega)) (fun p ⟨p1, p2, _⟩ => Evs.bind (markString_ev n p.1 hn (by omega) (by omega)) (fun o ho => Evs.no (by omega) (Evs.bind (eqFrame_ev v (by omega)) (fun d hd => ?_))))
  subst hd
  exact FnExactHideFuncs_j0 l n v hg.1 hn sm hv
end Go.Proofs.Ytimogbghkmhhgaa.Pure
