/- The plain proof: what the printed functions tell. Conditions: none beyond the statement's own. -/
import Derived.Test.YtdjdfflpdngohaaCFnInnerTracePureTrace
import Derived.Test.YtdjdfflpdngohaaCFnInnerTracePTx3
import Derived.Test.YtdjdfflpdngohaaCFnInnerTracePTx2
namespace Go.Proofs.Ytdjdfflpdngohaa.Pure
open Go.RowKit Go.Proofs.Ytdjdfflpdngohaa.PT Go.Proofs.YtdjdfflpdngohaaW.PrintWords
set_option linter.unusedVariables false
set_option linter.unusedSimpArgs false
theorem last_spec (n : ByteArray) (t : List S35) : ∀ (m j : Nat), impl_InnerTrace.last n t m = some j → j < m ∧ (rd_T35 t (j : Int)).f0.toList = n.toList ∧ ∀ i : Nat, j < i → i < m → (rd_T35 t (i : Int)).f0.toList ≠ n.toList
  | 0, j, h => by simp [impl_InnerTrace.last] at h
  | m + 1, j, h => by
    rw [impl_InnerTrace.last] at h
    by_cases q : (rd_T35 t (m : Int)).f0.toList = n.toList
    · rw [if_pos q] at h
      obtain rfl := Option.some.inj h
      exact ⟨by omega, q, fun i h1 h2 => by omega⟩
    · rw [if_neg q] at h
      obtain ⟨h1, h2, h3⟩ := last_spec n t m j h
      refine ⟨by omega, h2, fun i i0 i1 => ?_⟩
      by_cases e : i = m
      · subst e; exact q
      · exact h3 i i0 (by omega)
def innerTo (n : ByteArray) (t : List S35) (m : Nat) : List S35 × Bool := match impl_InnerTrace.last n t m with
  | some j => (t.drop j, true)
  | none => ([], false)
def InnerR (t : List S35) (n : ByteArray) (r : List S35 × Bool) : Prop := (ValidTr t ∧ r = innerTo n t t.length) ∨ (¬ ValidTr t ∧ r = ([], false))
theorem InnerR.uniq {t : List S35} {n : ByteArray} {r s : List S35 × Bool} (h : InnerR t n r) (k : InnerR t n s) : r = s := by
  rcases h with ⟨h1, h2⟩ | ⟨h1, h2⟩ <;> rcases k with ⟨k1, k2⟩ | ⟨k1, k2⟩
  · rw [h2, k2]
  · exact absurd h1 k1
  · exact absurd k1 h1
  · rw [h2, k2]
theorem InnerR.len {t : List S35} {n : ByteArray} {r : List S35 × Bool} (h : InnerR t n r) : (r.1.length : Int) ≤ 12 := by
  rcases h with ⟨h1, h2⟩ | ⟨h1, h2⟩
  · have := h1.1
    rw [h2]
    unfold innerTo
    split
    · simp only [List.length_drop]; omega
    · simp
  · rw [h2]; simp
theorem InnerTrace_ev (t : List S35) (n : ByteArray) (ht : SmallTr t) : Evs (fun k => impl_InnerTrace.f k t n) (InnerR t n) := by
  have hl := ht.1
  unfold impl_InnerTrace.f
  refine Evs.bind (ValidTrace_ev t ht) (fun a ha => Evs.ite (fun h => ?_) (fun h => Evs.ret (.inr ⟨fun q => h (ha.2 q), rfl⟩)))
  exact Evs.yes (by omega) (Evs.ret (.inl ⟨ha.1 h, rfl⟩))
theorem copyFrames_evI (t : List S35) (ht : (t.length : Int) ≤ 1099511627776) : Evs (fun _ => spec_copyFrames.f t) (fun r => r = t) := by
  unfold spec_copyFrames.f
  refine Evs.const (a := t) ?_ rfl
  simp only [Option.bind_some, List.length_nil, List.nil_append]
  rw [if_pos (by omega)]
theorem sInner_l0 (t : List S35) (n : ByteArray) (ht : (t.length : Int) ≤ 12) : ∀ (m : Nat) (i : Int), i = (m : Int) - 1 → m ≤ t.length → Evs (fun k => spec_InnerTrace.l0 k t n i) (fun r => r = innerTo n t m)
  | 0, i, hi, hm => Evs.step (fun k => by rw [spec_InnerTrace.l0]) (Evs.no (by omega) (Evs.ret (a := (([], false) : List S35 × Bool)) (show ([], false) = innerTo n t 0 from rfl)))
  | m + 1, i, hi, hm => by
    obtain rfl : i = (m : Int) := by omega
    refine Evs.step (fun k => by rw [spec_InnerTrace.l0]) (Evs.yes (by omega) (Evs.yes (by omega) (Evs.yes (by omega) (Evs.ite (fun h => ?_) (fun h => ?_)))))
    · refine Evs.yes (by omega) (Evs.bind (copyFrames_evI _ (by simp; omega)) (fun r hr => Evs.ret ?_))
      unfold innerTo
      rw [impl_InnerTrace.last, if_pos h, hr]
      simp
    · rw [w64 (x := (m : Int) - 1) (by omega) (by omega)]
      refine (sInner_l0 t n ht m _ rfl (by omega)).imp fun r hr => ?_
      rw [hr]
      unfold innerTo
      rw [impl_InnerTrace.last, if_neg h]
theorem sInnerTrace_ev (t : List S35) (n : ByteArray) (ht : SmallTr t) : Evs (fun k => spec_InnerTrace.f k t n) (InnerR t n) := by
  have hl := ht.1
  unfold spec_InnerTrace.f
  refine Evs.bind (validTrace_ev t ht) (fun a ha => Evs.ite (fun h => ?_) (fun h => Evs.ret (.inr ⟨fun q => h (ha.2 q), rfl⟩)))
  have hv := ha.1 h
  rw [w64 (x := (t.length : Int) - 1) (by omega) (by omega)]
  exact (sInner_l0 t n hv.1 t.length _ rfl (Nat.le_refl _)).imp fun r hr => .inl ⟨hv, hr⟩
end Go.Proofs.Ytdjdfflpdngohaa.Pure
