/- The plain proof: what the printed functions tell. Conditions: none beyond the statement's own. -/
import Derived.Test.YtihglabpnladoaaCFnExactClassNamedPureTree
import Derived.Test.YtihglabpnladoaaCFnExactClassNamedPTx6
import Derived.Test.YtihglabpnladoaaCFnExactClassNamedPTx7
namespace Go.Proofs.Ytihglabpnladoaa.Pure
open Go.RowKit Go.Proofs.Ytihglabpnladoaa.PT Go.Proofs.YtihglabpnladoaaW.PrintWords Go.Proofs.YtihglabpnladoaaW.PrintLast
set_option linter.unusedVariables false
def Named (t : List S34) (n : ByteArray) (r : Int) : Prop := (ValidT t ∧ First t n r) ∨ (¬ ValidT t ∧ r = -1)
theorem Named.uniq {t : List S34} {n : ByteArray} {r s : Int} (h : Named t n r) (k : Named t n s) : r = s := by
  rcases h with ⟨h1, h2⟩ | ⟨h1, h2⟩ <;> rcases k with ⟨k1, k2⟩ | ⟨k1, k2⟩
  · exact h2.uniq k2
  · exact absurd h1 k1
  · exact absurd k1 h1
  · omega
theorem ClassNamed_ev (t : List S34) (n : ByteArray) (ht : SmallT t) : Evs (fun k => impl_ClassNamed.f k t n) (Named t n) := by
  unfold impl_ClassNamed.f
  refine Evs.bind (ValidTree_ev t ht) (fun a ha => Evs.ite (fun h => ?_) (fun h => Evs.ret (.inr ⟨fun q => h (ha.2 q), rfl⟩)))
  exact Evs.bind (named_ev t n) (fun b hb => Evs.ret (.inl ⟨ha.1 h, hb⟩))
theorem sClassNamed_ev (t : List S34) (n : ByteArray) (ht : SmallT t) : Evs (fun k => spec_ClassNamed.f k t n) (Named t n) := by
  unfold spec_ClassNamed.f
  refine Evs.bind (validTree_ev t ht) (fun a ha => Evs.ite (fun h => ?_) (fun h => Evs.ret (.inr ⟨fun q => h (ha.2 q), rfl⟩)))
  exact Evs.bind (classNamed_ev t n ht.1) (fun b hb => Evs.ret (.inl ⟨ha.1 h, hb⟩))
end Go.Proofs.Ytihglabpnladoaa.Pure
