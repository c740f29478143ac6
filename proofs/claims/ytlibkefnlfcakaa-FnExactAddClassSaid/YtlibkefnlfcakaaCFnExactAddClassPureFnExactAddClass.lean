/- The plain proof: what the printed functions tell. Conditions: none beyond the statement's own. -/
import Derived.Test.YtlibkefnlfcakaaCFnExactAddClassPureMarkTree
import Derived.Test.YtlibkefnlfcakaaCFnExactAddClassPureAddClass
import Derived.Test.YtlibkefnlfcakaaCFnExactAddClassPTx13
namespace Go.Proofs.Ytlibkefnlfcakaa.Pure
open Go.RowKit Go.Proofs.Ytlibkefnlfcakaa.PT Go.Proofs.YtlibkefnlfcakaaW.PrintWords Go.Proofs.YtlibkefnlfcakaaW.PrintLast
set_option linter.unusedVariables false
theorem bne_self' (b : Bool) : (b != b) = false := by simp
theorem FnExactAddClass_j1 (l : List S90) (n : ByteArray) (p : Int) (w : List S62 × Bool) (hg : (l.length : Int) ≤ 1048576) (sm : SmallT (conv l)) (hn : (n.size : Int) ≤ 1099511627776) (hw : AddR (conv l) n p w) :
    Evs (fun k => laws_FnExactAddClass.j1 k n p w.2 false l w.1 w.1) (fun r => r = true) := by
  have hl := hw.len
  have hcl : ((conv l).length : Int) ≤ 1048576 := by rw [conv_length]; exact hg
  refine Evs.step (fun k => by rw [laws_FnExactAddClass.j1]) (Evs.no (by simp) ?_)
  refine Evs.bind (markTr_ev w.1 1 (by omega) (by omega) (by omega)) (fun q ⟨p1, p2, p3⟩ => ?_)
  have held : Evs (fun k => laws_heldTree.f k q.2 1) (fun r => r = q.1) := (heldTr_ev q.2 1 (by omega) (by omega) (by omega) p3).imp fun r hr => by rw [hr, p1, p2]
  refine Evs.bind held (fun r hr => Evs.no (by omega) (Evs.yes hr (Evs.bind (toTree_ev l hg) (fun t ht => ?_))))
  subst ht
  refine Evs.bind (AddClass_ev _ n p sm hcl hn) (fun v hv => ?_)
  have e := hv.uniq hw
  subst e
  refine Evs.bind (eqTree_ev v.1 (by omega)) (fun c hc => Evs.yes hc ?_)
  rw [bne_self']
  refine Evs.step (fun k => by rw [laws_FnExactAddClass.j2]) (Evs.no (by simp) ?_)
  exact Evs.bind held (fun r hr => Evs.no (by omega) (Evs.yes hr (Evs.ret rfl)))
theorem FnExactAddClass_j0 (l : List S90) (n : ByteArray) (p : Int) (w : List S62 × Bool) (hg : (l.length : Int) ≤ 1048576) (sm : SmallT (conv l)) (hn : (n.size : Int) ≤ 1099511627776) (hw : AddR (conv l) n p w) :
    Evs (fun k => laws_FnExactAddClass.j0 k n p w.2 w.2 false l w.1 (conv l) w.1) (fun r => r = true) := by
  have hl := hw.len
  have hcl : ((conv l).length : Int) ≤ 1048576 := by rw [conv_length]; exact hg
  refine Evs.step (fun k => by rw [laws_FnExactAddClass.j0]) (Evs.no (by simp) (Evs.bind (toTree_ev l hg) (fun t ht => ?_)))
  subst ht
  refine Evs.bind (eqTree_ev _ (by omega)) (fun c hc => Evs.yes hc (Evs.bind (markTr_ev _ 1 (by omega) (by omega) (by omega)) (fun q ⟨p1, p2, _⟩ => Evs.no (by omega) (Evs.bind (eqTree_ev _ (by omega)) (fun c hc => Evs.yes hc ?_)))))
  rw [bne_self']
  exact FnExactAddClass_j1 l n p w hg sm hn hw
theorem FnExactAddClass : ∀ (l0 : List S90), l0.length ≤ maxLen → (∀ y ∈ l0, y.f0.size ≤ maxLen ∧ (Lit.int .i64 y.f1).wf = true) → ∀ (a1 : ByteArray), a1.size ≤ maxLen → ∀ (a2 : Int), (Lit.int .i64 a2).wf = true → ∃ k, laws_FnExactAddClass.f k l0 a1 a2 = some true := by
  intro l hl hs n _ p _
  apply Evs.done
  unfold laws_FnExactAddClass.f
  refine Evs.ite (fun _ => Evs.ret rfl) (fun hn => ?_)
  refine Evs.bind (szTree_ev l 1048576 hl (fun y hy => (hs y hy).1) (by omega) (by omega)) (fun r hr => Evs.ite (fun _ => Evs.ret rfl) (fun h => ?_))
  have hg := hr.2.2 (by omega)
  have sm := conv_small hg
  have hcl : ((conv l).length : Int) ≤ 1048576 := by rw [conv_length]; exact hg.1
  refine Evs.bind (toTree_ev l hg.1) (fun t ht => ?_)
  subst ht
  refine Evs.bind (sAddClass_ev _ n p sm hcl (by omega)) (fun w hw => Evs.bind (toTree_ev l hg.1) (fun t ht => ?_))
  subst ht
  refine Evs.bind (AddClass_ev _ n p sm hcl (by omega)) (fun v hv => ?_)
  have e := hv.uniq hw
  subst e
  have hlen := hv.len
  refine Evs.bind (eqTree_ev v.1 (by omega)) (fun c hc => Evs.yes hc ?_)
  rw [bne_self']
  exact FnExactAddClass_j0 l n p v hg.1 sm (by omega) hv
end Go.Proofs.Ytlibkefnlfcakaa.Pure
