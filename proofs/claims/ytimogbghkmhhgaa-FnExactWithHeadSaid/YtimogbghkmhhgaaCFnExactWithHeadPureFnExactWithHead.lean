/- The plain proof: what the printed functions tell. Conditions: none beyond the statement's own. -/
import Derived.Test.YtimogbghkmhhgaaCFnExactWithHeadPureMarkFrame
import Derived.Test.YtimogbghkmhhgaaCFnExactWithHeadPureWithHead
import Derived.Test.YtimogbghkmhhgaaCFnExactWithHeadPTx14
namespace Go.Proofs.Ytimogbghkmhhgaa.Pure
open Go.RowKit Go.Proofs.Ytimogbghkmhhgaa.PT Go.Proofs.YtimogbghkmhhgaaW.PrintWords Go.Proofs.YtimogbghkmhhgaaW.PrintLast
set_option linter.unusedVariables false
theorem bne_selfW (b : Bool) : (b != b) = false := by simp
theorem FnExactWithHead_j1 (l : List S40) (n : Int) (m : List S40) (w : List S34 × Bool) (hg : (l.length : Int) ≤ 1048576) (hg' : (m.length : Int) ≤ 1048576) (sm : SmallTr (conv l)) (sm' : SmallTr (conv m)) (hw : WithR (conv l) n (conv m) w) :
    Evs (fun k => laws_FnExactWithHead.j1 k l n m w.1 w.2 w.1 false) (fun r => r = true) := by
  have hl := hw.len
  have hcl : ((conv l).length : Int) ≤ 1048576 := by rw [conv_length]; exact hg
  have hcm : ((conv m).length : Int) ≤ 1048576 := by rw [conv_length]; exact hg'
  refine Evs.step (fun k => by rw [laws_FnExactWithHead.j1]) (Evs.no (by simp) ?_)
  refine Evs.bind (markFrame_ev w.1 1 (by omega) (by omega) (by omega)) (fun p ⟨p1, p2, p3⟩ => ?_)
  have held : Evs (fun k => laws_heldFrameS.f k p.2 1) (fun r => r = p.1) := (heldFrame_ev p.2 1 (by omega) (by omega) (by omega) p3).imp fun r hr => by rw [hr, p1, p2]
  refine Evs.bind held (fun r hr => Evs.no (by omega) (Evs.yes hr (Evs.bind (toFrame_ev l hg) (fun t ht => Evs.bind (toFrame_ev m hg') (fun u hu => ?_)))))
  subst ht hu
  refine Evs.bind (WithHead_ev _ n _ sm sm' hcl hcm) (fun v hv => ?_)
  have e := hv.uniq hw
  subst e
  refine Evs.bind (eqFrame_ev v.1 (by omega)) (fun c hc => Evs.yes hc ?_)
  rw [bne_selfW]
  refine Evs.step (fun k => by rw [laws_FnExactWithHead.j2]) (Evs.no (by simp) ?_)
  exact Evs.bind held (fun r hr => Evs.no (by omega) (Evs.yes hr (Evs.ret rfl)))
theorem FnExactWithHead_j0 (l : List S40) (n : Int) (m : List S40) (w : List S34 × Bool) (hg : (l.length : Int) ≤ 1048576) (hg' : (m.length : Int) ≤ 1048576) (sm : SmallTr (conv l)) (sm' : SmallTr (conv m)) (hw : WithR (conv l) n (conv m) w) :
    Evs (fun k => laws_FnExactWithHead.j0 k l n m w.1 w.2 (conv l) (conv m) w.1 w.2 false) (fun r => r = true) := by
  have hl := hw.len
  have hcl : ((conv l).length : Int) ≤ 1048576 := by rw [conv_length]; exact hg
  have hcm : ((conv m).length : Int) ≤ 1048576 := by rw [conv_length]; exact hg'
  refine Evs.step (fun k => by rw [laws_FnExactWithHead.j0]) (Evs.no (by simp) (Evs.bind (toFrame_ev l hg) (fun t ht => ?_)))
  subst ht
  refine Evs.bind (eqFrame_ev _ (by omega)) (fun c hc => Evs.yes hc (Evs.bind (toFrame_ev m hg') (fun t ht => ?_)))
  subst ht
  refine Evs.bind (eqFrame_ev _ (by omega)) (fun c hc => Evs.yes hc (Evs.bind (markFrame_ev _ 1 (by omega) (by omega) (by omega)) (fun p ⟨p1, p2, _⟩ => ?_)))
  refine Evs.bind (markFrame_ev _ p.1 (by omega) (by omega) (by omega)) (fun q ⟨q1, q2, _⟩ => Evs.no (by omega) (Evs.bind (eqFrame_ev _ (by omega)) (fun c hc => Evs.yes hc ?_)))
  rw [bne_selfW]
  exact FnExactWithHead_j1 l n m w hg hg' sm sm' hw
theorem FnExactWithHead : ∀ (l0 : List S40), l0.length ≤ maxLen → (∀ y ∈ l0, y.f0.size ≤ maxLen ∧ (Lit.int .i64 y.f1).wf = true) → ∀ (a1 : Int), (Lit.int .i64 a1).wf = true → ∀ (l2 : List S40), l2.length ≤ maxLen → (∀ y ∈ l2, y.f0.size ≤ maxLen ∧ (Lit.int .i64 y.f1).wf = true) → ∃ k, laws_FnExactWithHead.f k l0 a1 l2 = some true := by
  intro l hl hs n _ m hm hq
  apply Evs.done
  unfold laws_FnExactWithHead.f
  refine Evs.bind (szFrame_ev l 1048576 hl (fun y hy => (hs y hy).1) (by omega) (by omega)) (fun r hr => Evs.ite (fun _ => Evs.ret rfl) (fun h => ?_))
  refine Evs.bind (szFrame_ev m r hm (fun y hy => (hq y hy).1) (by omega) hr.2.1) (fun s hs' => Evs.ite (fun _ => Evs.ret rfl) (fun h' => ?_))
  have hg := hr.2.2 (by omega)
  have hg' := hs'.2.2 (by omega)
  have sm := conv_small hg
  have sm' := conv_small hg'
  have hcl : ((conv l).length : Int) ≤ 1048576 := by rw [conv_length]; exact hg.1
  have hcm : ((conv m).length : Int) ≤ 1048576 := by rw [conv_length]; exact hg'.1
  refine Evs.bind (toFrame_ev l hg.1) (fun t ht => Evs.bind (toFrame_ev m hg'.1) (fun t' ht' => ?_))
  subst ht ht'
  refine Evs.bind (sWithHead_ev _ n _ sm sm' hcl hcm) (fun a ha => Evs.bind (toFrame_ev l hg.1) (fun t ht => Evs.bind (toFrame_ev m hg'.1) (fun t' ht' => ?_)))
  subst ht ht'
  refine Evs.bind (WithHead_ev _ n _ sm sm' hcl hcm) (fun b hb => ?_)
  have e := hb.uniq ha
  subst e
  have hlen := hb.len
  refine Evs.bind (eqFrame_ev _ (by omega)) (fun c hc => Evs.yes hc ?_)
  rw [bne_selfW]
  exact FnExactWithHead_j0 l n m b hg.1 hg'.1 sm sm' hb
end Go.Proofs.Ytimogbghkmhhgaa.Pure
