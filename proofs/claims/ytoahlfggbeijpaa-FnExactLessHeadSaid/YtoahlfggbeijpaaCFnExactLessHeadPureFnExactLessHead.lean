/- The plain proof: what the printed functions tell. Conditions: none beyond the statement's own. -/
import Derived.Test.YtoahlfggbeijpaaCFnExactLessHeadPureMarkFrame
import Derived.Test.YtoahlfggbeijpaaCFnExactLessHeadPureFnLessHeadSame
import Derived.Test.YtoahlfggbeijpaaCFnExactLessHeadPTx10
namespace Go.Proofs.Ytoahlfggbeijpaa.Pure
open Go.RowKit Go.Proofs.Ytoahlfggbeijpaa.PT Go.Proofs.YtoahlfggbeijpaaW.PrintWords Go.Proofs.YtoahlfggbeijpaaW.PrintLast
set_option linter.unusedVariables false
theorem Less.len {t u : List S48} {r : List S48 × Int} (h : Less t u r) : (r.1.length : Int) ≤ 12 := by
  rcases h with ⟨hg, _, h⟩ | ⟨_, h⟩
  · have := hg.1.1
    rw [h]; simp; omega
  · rw [h]; simp
theorem FnExactLessHead_j1 (l m : List S56) (w : List S48 × Int) (hg : (l.length : Int) ≤ 1048576) (hg' : (m.length : Int) ≤ 1048576) (sm : SmallTr (conv l)) (sm' : SmallTr (conv m)) (hw : Less (conv l) (conv m) w) :
    Evs (fun k => laws_FnExactLessHead.j1 k l m w.1 w.2 w.1 false) (fun r => r = true) := by
  have hl := hw.len
  refine Evs.step (fun k => by rw [laws_FnExactLessHead.j1]) (Evs.no (by simp) ?_)
  refine Evs.bind (markFrame_ev w.1 1 (by omega) (by omega) (by omega)) (fun p ⟨p1, p2, p3⟩ => ?_)
  have held : Evs (fun k => laws_heldFrameS.f k p.2 1) (fun r => r = p.1) := (heldFrame_ev p.2 1 (by omega) (by omega) (by omega) p3).imp fun r hr => by rw [hr, p1, p2]
  refine Evs.bind held (fun r hr => Evs.no (by omega) (Evs.yes hr (Evs.bind (toFrame_ev l hg) (fun t ht => Evs.bind (toFrame_ev m hg') (fun u hu => ?_)))))
  subst ht hu
  refine Evs.bind (LessHead_ev _ _ sm sm') (fun v hv => ?_)
  have e := hv.uniq hw
  subst e
  have hl' := hv.len
  refine Evs.bind (eqFrame_ev v.1 (by omega)) (fun c hc => Evs.yes hc ?_)
  refine Evs.step (fun k => by rw [laws_FnExactLessHead.j2]) (Evs.no (by simp) ?_)
  exact Evs.bind held (fun r hr => Evs.no (by omega) (Evs.yes hr (Evs.ret rfl)))
theorem FnExactLessHead_j0 (l m : List S56) (w : List S48 × Int) (hg : (l.length : Int) ≤ 1048576) (hg' : (m.length : Int) ≤ 1048576) (sm : SmallTr (conv l)) (sm' : SmallTr (conv m)) (hw : Less (conv l) (conv m) w) :
    Evs (fun k => laws_FnExactLessHead.j0 k l m w.1 w.2 (conv l) (conv m) w.1 w.2 false) (fun r => r = true) := by
  have hl := hw.len
  have hcl : ((conv l).length : Int) ≤ 1048576 := by rw [conv_length]; exact hg
  have hcm : ((conv m).length : Int) ≤ 1048576 := by rw [conv_length]; exact hg'
  refine Evs.step (fun k => by rw [laws_FnExactLessHead.j0]) (Evs.no (by simp) (Evs.bind (toFrame_ev l hg) (fun t ht => ?_)))
  subst ht
  refine Evs.bind (eqFrame_ev _ (by omega)) (fun c hc => Evs.yes hc (Evs.bind (toFrame_ev m hg') (fun t ht => ?_)))
  subst ht
  refine Evs.bind (eqFrame_ev _ (by omega)) (fun c hc => Evs.yes hc (Evs.bind (markFrame_ev _ 1 (by omega) (by omega) (by omega)) (fun p ⟨p1, p2, _⟩ => ?_)))
  refine Evs.bind (markFrame_ev _ p.1 (by omega) (by omega) (by omega)) (fun q ⟨q1, q2, _⟩ => Evs.no (by omega) (Evs.bind (eqFrame_ev _ (by omega)) (fun c hc => Evs.yes hc ?_)))
  have e : (w.2 != w.2) = false := by simp
  rw [e]
  exact FnExactLessHead_j1 l m w hg hg' sm sm' hw
theorem FnExactLessHead : ∀ (l0 : List S56), l0.length ≤ maxLen → (∀ y ∈ l0, y.f0.size ≤ maxLen ∧ (Lit.int .i64 y.f1).wf = true) → ∀ (l1 : List S56), l1.length ≤ maxLen → (∀ y ∈ l1, y.f0.size ≤ maxLen ∧ (Lit.int .i64 y.f1).wf = true) → ∃ k, laws_FnExactLessHead.f k l0 l1 = some true := by
  intro l hl hs m hm hq
  apply Evs.done
  unfold laws_FnExactLessHead.f
  refine Evs.bind (szFrame_ev l 1048576 hl (fun y hy => (hs y hy).1) (by omega) (by omega)) (fun r hr => Evs.ite (fun _ => Evs.ret rfl) (fun h => ?_))
  refine Evs.bind (szFrame_ev m r hm (fun y hy => (hq y hy).1) (by omega) hr.2.1) (fun s hs' => Evs.ite (fun _ => Evs.ret rfl) (fun h' => ?_))
  have hg := hr.2.2 (by omega)
  have hg' := hs'.2.2 (by omega)
  have sm := conv_small hg
  have sm' := conv_small hg'
  refine Evs.bind (toFrame_ev l hg.1) (fun t ht => Evs.bind (toFrame_ev m hg'.1) (fun t' ht' => ?_))
  subst ht ht'
  refine Evs.bind (sLessHead_ev _ _ sm sm') (fun a ha => Evs.bind (toFrame_ev l hg.1) (fun t ht => Evs.bind (toFrame_ev m hg'.1) (fun t' ht' => ?_)))
  subst ht ht'
  refine Evs.bind (LessHead_ev _ _ sm sm') (fun b hb => ?_)
  have e := hb.uniq ha
  subst e
  have hlen := hb.len
  refine Evs.bind (eqFrame_ev _ (by omega)) (fun c hc => Evs.yes hc ?_)
  have e : (b.2 != b.2) = false := by simp
  rw [e]
  exact FnExactLessHead_j0 l m b hg.1 hg'.1 sm sm' hb
end Go.Proofs.Ytoahlfggbeijpaa.Pure
