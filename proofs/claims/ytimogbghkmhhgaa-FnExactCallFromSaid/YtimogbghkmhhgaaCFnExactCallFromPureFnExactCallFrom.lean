/- The plain proof: what the printed functions tell. Conditions: none beyond the statement's own. -/
import Derived.Test.YtimogbghkmhhgaaCFnExactCallFromPureMarkFrame
import Derived.Test.YtimogbghkmhhgaaCFnExactCallFromPureCallFrom
import Derived.Test.YtimogbghkmhhgaaCFnExactCallFromPTx12
namespace Go.Proofs.Ytimogbghkmhhgaa.Pure
open Go.RowKit Go.Proofs.Ytimogbghkmhhgaa.PT Go.Proofs.YtimogbghkmhhgaaW.PrintWords Go.Proofs.YtimogbghkmhhgaaW.PrintLast
set_option linter.unusedVariables false
theorem bne_selfC (b : Bool) : (b != b) = false := by simp
theorem toOne (a : ByteArray) (b : Int) : Evs (fun _ => laws_toFrame.f a b) (fun r => (a, b) = r) := by
  unfold laws_toFrame.f
  exact Evs.ret rfl
theorem FnExactCallFrom_j1 (l : List S40) (f : S34) (w : List S34 × Bool) (hg : (l.length : Int) ≤ 1048576) (sm : SmallTr (conv l)) (hf : (f.f0.size : Int) ≤ 1099511627776) (hw : CallR (conv l) f w) :
    Evs (fun k => laws_FnExactCallFrom.j1 k l w.1 w.2 w.1 false f.f0 f.f1) (fun r => r = true) := by
  have hl := hw.len
  have hcl : ((conv l).length : Int) ≤ 1048576 := by rw [conv_length]; exact hg
  refine Evs.step (fun k => by rw [laws_FnExactCallFrom.j1]) (Evs.no (by simp) ?_)
  refine Evs.bind (markFrame_ev w.1 1 (by omega) (by omega) (by omega)) (fun p ⟨p1, p2, p3⟩ => ?_)
  have held : Evs (fun k => laws_heldFrameS.f k p.2 1) (fun r => r = p.1) := (heldFrame_ev p.2 1 (by omega) (by omega) (by omega) p3).imp fun r hr => by rw [hr, p1, p2]
  refine Evs.bind held (fun r hr => Evs.no (by omega) (Evs.yes hr (Evs.bind (toFrame_ev l hg) (fun t ht => Evs.bind (toOne _ _) (fun u hu => ?_)))))
  subst ht hu
  refine Evs.bind (CallFrom_ev _ f sm hcl hf) (fun v hv => ?_)
  have e := hv.uniq hw
  subst e
  refine Evs.bind (eqFrame_ev v.1 (by omega)) (fun c hc => Evs.yes hc ?_)
  rw [bne_selfC]
  refine Evs.step (fun k => by rw [laws_FnExactCallFrom.j2]) (Evs.no (by simp) ?_)
  exact Evs.bind held (fun r hr => Evs.no (by omega) (Evs.yes hr (Evs.ret rfl)))
theorem FnExactCallFrom_j0 (l : List S40) (f : S34) (w : List S34 × Bool) (hg : (l.length : Int) ≤ 1048576) (sm : SmallTr (conv l)) (hf : (f.f0.size : Int) ≤ 1099511627776) (hw : CallR (conv l) f w) :
    Evs (fun k => laws_FnExactCallFrom.j0 k l w.1 w.2 (conv l) w.1 w.2 false f.f0 f.f1) (fun r => r = true) := by
  have hl := hw.len
  have hcl : ((conv l).length : Int) ≤ 1048576 := by rw [conv_length]; exact hg
  refine Evs.step (fun k => by rw [laws_FnExactCallFrom.j0]) (Evs.no (by simp) (Evs.bind (toFrame_ev l hg) (fun t ht => ?_)))
  subst ht
  refine Evs.bind (eqFrame_ev _ (by omega)) (fun c hc => Evs.yes hc (Evs.bind (markFrame_ev _ 1 (by omega) (by omega) (by omega)) (fun p ⟨p1, p2, _⟩ => Evs.no (by omega) (Evs.bind (eqFrame_ev _ (by omega)) (fun d hd => Evs.yes hd ?_)))))
  rw [bne_selfC]
  exact FnExactCallFrom_j1 l f w hg sm hf hw
theorem FnExactCallFrom : ∀ (l0 : List S40), l0.length ≤ maxLen → (∀ y ∈ l0, y.f0.size ≤ maxLen ∧ (Lit.int .i64 y.f1).wf = true) → ∀ (a1_0 : ByteArray), a1_0.size ≤ maxLen → ∀ (a1_1 : Int), (Lit.int .i64 a1_1).wf = true → ∃ k, laws_FnExactCallFrom.f k l0 a1_0 a1_1 = some true := by
  intro l hl hs a ha b _
  rw [maxLen_eq] at ha
  apply Evs.done
  unfold laws_FnExactCallFrom.f
  refine Evs.bind (szFrame_ev l 1048576 hl (fun y hy => (hs y hy).1) (by omega) (by omega)) (fun r hr => Evs.ite (fun _ => Evs.ret rfl) (fun h => ?_))
  have hg := hr.2.2 (by omega)
  have hr1 := hr.2.1
  have sm := conv_small hg
  have hcl : ((conv l).length : Int) ≤ 1048576 := by rw [conv_length]; exact hg.1
  refine Evs.bind (P := fun x => 0 ≤ x → (a.size : Int) ≤ 1048576) ?_ (fun x hx => Evs.ite (fun _ => Evs.ret rfl) (fun h' => ?_))
  · unfold laws_szFrame.f
    rw [w64 (x := r - (a.size : Int)) (by omega) (by omega)]
    exact Evs.ite (fun q => Evs.ret (fun z => by omega)) (fun q => Evs.ret (fun z => by omega))
  have hE := hx (by omega)
  have hf : ((⟨a, b⟩ : S34).f0.size : Int) ≤ 1099511627776 := by simp only; omega
  refine Evs.bind (toFrame_ev l hg.1) (fun t ht => Evs.bind (toOne _ _) (fun u hu => ?_))
  subst ht hu
  refine Evs.bind (sCallFrom_ev _ ⟨a, b⟩ sm hcl hf) (fun w hw => Evs.bind (toFrame_ev l hg.1) (fun t ht => Evs.bind (toOne _ _) (fun u hu => ?_)))
  subst ht hu
  refine Evs.bind (CallFrom_ev _ ⟨a, b⟩ sm hcl hf) (fun v hv => ?_)
  have e := hv.uniq hw
  subst e
  have hlen := hv.len
  refine Evs.bind (eqFrame_ev v.1 (by omega)) (fun c hc => Evs.yes hc ?_)
  rw [bne_selfC]
  exact FnExactCallFrom_j0 l ⟨a, b⟩ v hg.1 sm hf hv
end Go.Proofs.Ytimogbghkmhhgaa.Pure
