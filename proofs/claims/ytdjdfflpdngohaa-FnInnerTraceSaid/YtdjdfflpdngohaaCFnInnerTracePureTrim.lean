/- The plain proof: what the printed functions tell. Conditions: none beyond the statement's own. -/
import Derived.Test.YtdjdfflpdngohaaCFnInnerTracePureTrace
import Derived.Test.YtdjdfflpdngohaaCFnInnerTracePTx8
import Derived.Test.YtdjdfflpdngohaaCFnInnerTracePTx2
namespace Go.Proofs.Ytdjdfflpdngohaa.Pure
open Go.RowKit Go.Proofs.Ytdjdfflpdngohaa.PT Go.Proofs.YtdjdfflpdngohaaW.PrintWords
set_option linter.unusedVariables false
set_option linter.unusedSimpArgs false
def TrimR (t : List S35) (n : Int) (r : List S35) : Prop := (ValidTr t ∧ r = impl_TrimTrace.g n t) ∨ (¬ ValidTr t ∧ r = [])
theorem TrimR.uniq {t : List S35} {n : Int} {r s : List S35} (h : TrimR t n r) (k : TrimR t n s) : r = s := by
  rcases h with ⟨h1, h2⟩ | ⟨h1, h2⟩ <;> rcases k with ⟨k1, k2⟩ | ⟨k1, k2⟩
  · rw [h2, k2]
  · exact absurd h1 k1
  · exact absurd k1 h1
  · rw [h2, k2]
theorem trimG_len (t : List S35) (n : Int) : (impl_TrimTrace.g n t).length ≤ t.length := by
  unfold impl_TrimTrace.g
  split <;> split <;> simp <;> omega
theorem TrimR.len {t : List S35} {n : Int} {r : List S35} (h : TrimR t n r) : r.length ≤ t.length ∧ (r.length : Int) ≤ 12 := by
  rcases h with ⟨h1, h2⟩ | ⟨h1, h2⟩
  · have := h1.1
    have := trimG_len t n
    rw [h2]; omega
  · rw [h2]; simp
theorem trimG_drop (t : List S35) {n : Int} (h0 : 0 ≤ n) (h1 : n < t.length) : impl_TrimTrace.g (n - t.length) t = t.drop n.toNat := by
  unfold impl_TrimTrace.g
  rw [if_neg (by omega)]
  by_cases h : n = 0
  · subst h
    rw [if_neg (by omega)]
    simp
  · rw [if_pos (by omega), show (t.length : Int) + (n - t.length) = n by omega]
theorem TrimTrace_ev (t : List S35) (n : Int) (ht : SmallTr t) : Evs (fun k => impl_TrimTrace.f k t n) (TrimR t n) := by
  have hl := ht.1
  unfold impl_TrimTrace.f
  refine Evs.bind (ValidTrace_ev t ht) (fun a ha => Evs.ite (fun h => ?_) (fun h => Evs.ret (.inr ⟨fun q => h (ha.2 q), rfl⟩)))
  refine Evs.bind (P := fun r => t = r) ?_ (fun r hr => ?_)
  · unfold impl_Frame_23.f
    exact Evs.yes (by omega) (Evs.ret rfl)
  · subst hr
    exact Evs.ret (.inl ⟨ha.1 h, rfl⟩)
end Go.Proofs.Ytdjdfflpdngohaa.Pure
