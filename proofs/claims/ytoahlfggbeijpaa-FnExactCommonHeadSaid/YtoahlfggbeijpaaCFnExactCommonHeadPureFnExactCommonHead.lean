/- The plain proof: what the printed functions tell. Conditions: none beyond the statement's own. -/
import Derived.Test.YtoahlfggbeijpaaCFnExactCommonHeadPureExFrame
import Derived.Test.YtoahlfggbeijpaaCFnExactCommonHeadPureHeads
import Derived.Test.YtoahlfggbeijpaaCFnExactCommonHeadPTx5
import Derived.Test.YtoahlfggbeijpaaCFnExactCommonHeadPTx6
namespace Go.Proofs.Ytoahlfggbeijpaa.Pure
open Go.RowKit Go.Proofs.Ytoahlfggbeijpaa.PT Go.Proofs.YtoahlfggbeijpaaW.PrintWords Go.Proofs.YtoahlfggbeijpaaW.PrintLast
set_option linter.unusedVariables false
def Common (t u : List S48) (r : Int) : Prop := ((ValidTr t ∧ ValidTr u) ∧ Head t u r) ∨ (¬ (ValidTr t ∧ ValidTr u) ∧ r = -1)
theorem Common.uniq {t u : List S48} {r s : Int} (h : Common t u r) (k : Common t u s) : r = s := by
  rcases h with ⟨h1, h2⟩ | ⟨h1, h2⟩ <;> rcases k with ⟨k1, k2⟩ | ⟨k1, k2⟩
  · exact h2.uniq k2
  · exact absurd h1 k1
  · exact absurd k1 h1
  · rw [h2, k2]
theorem CommonHead_ev (t u : List S48) (ht : SmallTr t) (hu : SmallTr u) : Evs (fun k => impl_CommonHead.f k t u) (Common t u) := by
  unfold impl_CommonHead.f
  refine Evs.bind (ValidTrace_ev t ht) (fun a ha => Evs.ite (fun h => ?_) (fun h => Evs.ret (.inr ⟨fun q => h (ha.2 q.1), rfl⟩)))
  refine Evs.bind (ValidTrace_ev u hu) (fun b hb => Evs.ite (fun h' => ?_) (fun h' => Evs.ret (.inr ⟨fun q => h' (hb.2 q.2), rfl⟩)))
  exact Evs.bind (ihead_ev t u ht.1) (fun r hr => Evs.ret (.inl ⟨⟨ha.1 h, hb.1 h'⟩, hr⟩))
theorem sCommonHead_ev (t u : List S48) (ht : SmallTr t) (hu : SmallTr u) : Evs (fun k => spec_CommonHead.f k t u) (Common t u) := by
  unfold spec_CommonHead.f
  refine Evs.bind (validTrace_ev t ht) (fun a ha => Evs.ite (fun h => ?_) (fun h => Evs.ret (.inr ⟨fun q => h (ha.2 q.1), rfl⟩)))
  refine Evs.bind (validTrace_ev u hu) (fun b hb => Evs.ite (fun h' => ?_) (fun h' => Evs.ret (.inr ⟨fun q => h' (hb.2 q.2), rfl⟩)))
  exact Evs.bind (shead_ev t u ht.1) (fun r hr => Evs.ret (.inl ⟨⟨ha.1 h, hb.1 h'⟩, hr⟩))
theorem FnExactCommonHead : ∀ (l0 : List S56), l0.length ≤ maxLen → (∀ y ∈ l0, y.f0.size ≤ maxLen ∧ (Lit.int .i64 y.f1).wf = true) → ∀ (l1 : List S56), l1.length ≤ maxLen → (∀ y ∈ l1, y.f0.size ≤ maxLen ∧ (Lit.int .i64 y.f1).wf = true) → ∃ k, laws_FnExactCommonHead.f k l0 l1 = some true := by
  intro l hl hs m hm hq
  apply Evs.done
  unfold laws_FnExactCommonHead.f
  refine Evs.bind (szFrame_ev l 1048576 hl (fun y hy => (hs y hy).1) (by omega) (by omega)) (fun r hr => Evs.ite (fun _ => Evs.ret rfl) (fun h => ?_))
  refine Evs.bind (szFrame_ev m r hm (fun y hy => (hq y hy).1) (by omega) hr.2.1) (fun s hs' => Evs.ite (fun _ => Evs.ret rfl) (fun h' => ?_))
  have hg := hr.2.2 (by omega)
  have hg' := hs'.2.2 (by omega)
  have sm := conv_small hg
  have sm' := conv_small hg'
  refine Evs.bind (toFrame_ev l hg.1) (fun t ht => Evs.bind (toFrame_ev m hg'.1) (fun t' ht' => ?_))
  subst ht ht'
  refine Evs.bind (sCommonHead_ev _ _ sm sm') (fun a ha => Evs.bind (toFrame_ev l hg.1) (fun t ht => Evs.bind (toFrame_ev m hg'.1) (fun t' ht' => ?_)))
  subst ht ht'
  refine Evs.bind (CommonHead_ev _ _ sm sm') (fun b hb => Evs.yes (hb.uniq ha) (Evs.bind (toFrame_ev l hg.1) (fun t ht => ?_)))
  subst ht
  refine Evs.bind (eqFrame_ev _ (by rw [conv_length]; omega)) (fun c hc => Evs.yes hc (Evs.bind (toFrame_ev m hg'.1) (fun t' ht' => ?_)))
  subst ht'
  exact Evs.bind (eqFrame_ev _ (by rw [conv_length]; omega)) (fun c hc => Evs.yes hc (Evs.ret rfl))
end Go.Proofs.Ytoahlfggbeijpaa.Pure
