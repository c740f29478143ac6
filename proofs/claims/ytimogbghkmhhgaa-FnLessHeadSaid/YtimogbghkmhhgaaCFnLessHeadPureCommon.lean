/- The plain proof: what the printed functions tell. Conditions: none beyond the statement's own. -/
import Derived.Test.YtimogbghkmhhgaaCFnLessHeadPureHeads
import Derived.Test.YtimogbghkmhhgaaCFnLessHeadPTx16
namespace Go.Proofs.Ytimogbghkmhhgaa.Pure
open Go.RowKit Go.Proofs.Ytimogbghkmhhgaa.PT Go.Proofs.YtimogbghkmhhgaaW.PrintWords Go.Proofs.YtimogbghkmhhgaaW.PrintLast
set_option linter.unusedVariables false
def Common (t u : List S34) (r : Int) : Prop := ((ValidTr t ∧ ValidTr u) ∧ Head t u r) ∨ (¬ (ValidTr t ∧ ValidTr u) ∧ r = -1)
theorem Common.uniq {t u : List S34} {r s : Int} (h : Common t u r) (k : Common t u s) : r = s := by
  rcases h with ⟨h1, h2⟩ | ⟨h1, h2⟩ <;> rcases k with ⟨k1, k2⟩ | ⟨k1, k2⟩
  · exact h2.uniq k2
  · exact absurd h1 k1
  · exact absurd k1 h1
  · rw [h2, k2]
theorem CommonHead_ev (t u : List S34) (ht : SmallTr t) (hu : SmallTr u) : Evs (fun k => impl_CommonHead.f k t u) (Common t u) := by
  unfold impl_CommonHead.f
  refine Evs.bind (ValidTrace_ev t ht) (fun a ha => Evs.ite (fun h => ?_) (fun h => Evs.ret (.inr ⟨fun q => h (ha.2 q.1), rfl⟩)))
  refine Evs.bind (ValidTrace_ev u hu) (fun b hb => Evs.ite (fun h' => ?_) (fun h' => Evs.ret (.inr ⟨fun q => h' (hb.2 q.2), rfl⟩)))
  exact Evs.bind (ihead_ev t u ht.1) (fun r hr => Evs.ret (.inl ⟨⟨ha.1 h, hb.1 h'⟩, hr⟩))
theorem Head.symm {t u : List S34} {r : Int} (h : Head t u r) : Head u t r :=
  ⟨⟨h.1.1, h.1.2.2, h.1.2.1⟩, fun j j0 j1 => (h.2.1 j j0 j1).symm, fun a b e => h.2.2 b a e.symm⟩
theorem rdSF_take {t : List S34} {i j : Int} (h0 : 0 ≤ j) (h : j < i) (hi : i ≤ t.length) : rd_T34 (t.take i.toNat) j = rd_T34 t j := by
  unfold rd_T34
  rw [getD_nat _ _ _ (by simp; omega), getD_nat _ _ _ (by omega)]
  simp
theorem Head.take {t u : List S34} {r : Int} (h : Head t u r) : t.take r.toNat = u.take r.toNat := by
  have h1 := h.1
  refine ext_rdSF (by simp; omega) (fun j j0 j1 => ?_)
  have hj : j < r := by simp at j1; omega
  rw [rdSF_take j0 hj h1.2.1, rdSF_take j0 hj h1.2.2]
  exact h.2.1 j j0 hj
end Go.Proofs.Ytimogbghkmhhgaa.Pure
