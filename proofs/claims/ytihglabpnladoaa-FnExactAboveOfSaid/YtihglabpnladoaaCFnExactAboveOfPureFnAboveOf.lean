/- The plain proof: what the printed functions tell. Conditions: none beyond the statement's own. -/
import Derived.Test.YtihglabpnladoaaCFnExactAboveOfPureClass
import Derived.Test.YtihglabpnladoaaCFnExactAboveOfPTx10
import Derived.Test.YtihglabpnladoaaCFnExactAboveOfPTx11
namespace Go.Proofs.Ytihglabpnladoaa.Pure
open Go.RowKit Go.Proofs.Ytihglabpnladoaa.PT Go.Proofs.YtihglabpnladoaaW.PrintWords Go.Proofs.YtihglabpnladoaaW.PrintLast
set_option linter.unusedVariables false
def Above (t : List S34) (a : Int) (r : List Int) : Prop := r.length ≤ 8 ∧ (((ValidT t ∧ HasC t a) ∧ IsWay t a r) ∨ (¬ (ValidT t ∧ HasC t a) ∧ r = []))
theorem Above.uniq {t : List S34} {a : Int} {r s : List Int} (h : Above t a r) (k : Above t a s) : r = s := by
  rcases h with ⟨_, ⟨h1, h2⟩ | ⟨h1, h2⟩⟩ <;> rcases k with ⟨_, ⟨k1, k2⟩ | ⟨k1, k2⟩⟩
  · exact h2.uniq k2
  · exact absurd h1 k1
  · exact absurd k1 h1
  · rw [h2, k2]
theorem AboveOf_ev (t : List S34) (a : Int) (ht : SmallT t) : Evs (fun k => impl_AboveOf.f k t a) (Above t a) := by
  unfold impl_AboveOf.f
  refine Evs.bind (classesIn_ev t [a] ht) (fun v hv => Evs.ite (fun h => ?_) (fun h => Evs.ret ⟨by simp, .inr ⟨fun q => h (hv.2 ⟨q.1, by simpa using q.2⟩), rfl⟩⟩))
  have hg : ValidT t ∧ HasC t a := ⟨(hv.1 h).1, (hv.1 h).2 a (by simp)⟩
  exact Evs.bind (iabove_ev t a hg.1 hg.2) (fun r hr => Evs.ret ⟨hr.2, .inl ⟨hg, hr.1⟩⟩)
theorem sAboveOf_ev (t : List S34) (a : Int) (ht : SmallT t) : Evs (fun k => spec_AboveOf.f k t a) (Above t a) := by
  unfold spec_AboveOf.f
  refine Evs.bind (goodClass_ev t a ht) (fun v hv => Evs.ite (fun h => ?_) (fun h => Evs.ret ⟨by simp, .inr ⟨fun q => h (hv.2 q), rfl⟩⟩))
  exact Evs.bind (sabove_ev t a (hv.1 h).1 (hv.1 h).2) (fun r hr => Evs.ret ⟨hr.2, .inl ⟨hv.1 h, hr.1⟩⟩)
end Go.Proofs.Ytihglabpnladoaa.Pure
