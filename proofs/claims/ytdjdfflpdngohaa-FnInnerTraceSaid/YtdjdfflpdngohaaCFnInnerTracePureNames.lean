/- The plain proof: what the printed functions tell. Conditions: none beyond the statement's own. -/
import Derived.Test.YtdjdfflpdngohaaCFnInnerTracePureKit
import Derived.Test.YtdjdfflpdngohaaCFnInnerTracePTx2
import Derived.Test.YtdjdfflpdngohaaCFnInnerTracePTx3
namespace Go.Proofs.Ytdjdfflpdngohaa.Pure
open Go.RowKit Go.Proofs.Ytdjdfflpdngohaa.PT Go.Proofs.YtdjdfflpdngohaaW.PrintWords
set_option linter.unusedVariables false
set_option linter.unusedSimpArgs false
theorem within_ev (a b c : Int) : Evs (fun _ => impl_within.f a b c) (fun r => r = true ↔ (b ≤ a ∧ a ≤ c)) := by
  unfold impl_within.f
  refine Evs.ite (fun h => Evs.ret ?_) (fun h => Evs.ret ?_) <;> simp <;> omega
theorem inRange_ev (a b c : Int) : Evs (fun _ => spec_inRange.f a b c) (fun r => r = true ↔ (b ≤ a ∧ a ≤ c)) := by
  unfold spec_inRange.f
  refine Evs.ite (fun h => Evs.ret ?_) (fun h => Evs.ret ?_) <;> simp <;> omega
def NameOk (b : ByteArray) : Prop := (1 ≤ (b.size : Int) ∧ (b.size : Int) ≤ 6) ∧ ∀ j : Int, 0 ≤ j → j < b.size → 97 ≤ bt b j ∧ bt b j ≤ 122
theorem nameOk_l0 (b : ByteArray) (hb : (b.size : Int) ≤ 1099511627776) : ∀ (m : Nat) (i : Int), ((b.size : Int) - i).toNat = m → 0 ≤ i → i ≤ b.size →
    Evs (fun k => impl_nameOk.l0 k b b.size i) (fun r => r = true ↔ ((1 ≤ (b.size : Int) ∧ (b.size : Int) ≤ 6) ∧ ∀ j : Int, i ≤ j → j < b.size → 97 ≤ bt b j ∧ bt b j ≤ 122))
  | 0, i, hm, h0, h1 => by
    refine Evs.step (fun k => by rw [impl_nameOk.l0]) (Evs.no (by omega) (Evs.bind (within_ev _ _ _) (fun r hr => Evs.ret ?_)))
    rw [hr]
    exact ⟨fun h => ⟨h, fun j _ _ => by omega⟩, fun h => h.1⟩
  | m + 1, i, hm, h0, h1 => by
    refine Evs.step (fun k => by rw [impl_nameOk.l0]) (Evs.yes (by omega) (Evs.yes h0 (Evs.yes (by omega) (Evs.ite (fun h => Evs.ret ?_) (fun h => Evs.ite (fun h' => Evs.ret ?_) (fun h' => ?_))))))
    · refine ⟨fun h => by simp at h, fun ⟨_, q⟩ => ?_⟩
      have := q i (by omega) (by omega)
      omega
    · refine ⟨fun h => by simp at h, fun ⟨_, q⟩ => ?_⟩
      have := q i (by omega) (by omega)
      omega
    · rw [w64 (x := i + 1) (by omega) (by omega)]
      refine (nameOk_l0 b hb m (i + 1) (by omega) (by omega) (by omega)).imp fun r hr => ?_
      rw [hr]
      refine ⟨fun ⟨p, q⟩ => ⟨p, fun j j0 j1 => ?_⟩, fun ⟨p, q⟩ => ⟨p, fun j j0 j1 => q j (by omega) j1⟩⟩
      by_cases hj : j = i
      · subst hj; omega
      · exact q j (by omega) j1
theorem nameOk_ev (b : ByteArray) (hb : (b.size : Int) ≤ 1099511627776) : Evs (fun k => impl_nameOk.f k b) (fun r => r = true ↔ NameOk b) :=
  nameOk_l0 b hb _ 0 rfl (by omega) (by omega)
theorem validName_l0 (b : ByteArray) (hb : (b.size : Int) ≤ 1099511627776) : ∀ (m : Nat) (i : Int), ((b.size : Int) - i).toNat = m → 0 ≤ i → i ≤ b.size →
    Evs (fun k => spec_validName.l0 k b i) (fun r => r = true ↔ ((1 ≤ (b.size : Int) ∧ (b.size : Int) ≤ 6) ∧ ∀ j : Int, i ≤ j → j < b.size → 97 ≤ bt b j ∧ bt b j ≤ 122))
  | 0, i, hm, h0, h1 => by
    refine Evs.step (fun k => by rw [spec_validName.l0]) (Evs.no (by omega) (Evs.bind (inRange_ev _ _ _) (fun r hr => Evs.ret ?_)))
    rw [hr]
    exact ⟨fun h => ⟨h, fun j _ _ => by omega⟩, fun h => h.1⟩
  | m + 1, i, hm, h0, h1 => by
    refine Evs.step (fun k => by rw [spec_validName.l0]) (Evs.yes (by omega) (Evs.yes h0 (Evs.ite (fun h => Evs.ret ?_) (fun h => Evs.ite (fun h' => Evs.ret ?_) (fun h' => ?_)))))
    · refine ⟨fun h => by simp at h, fun ⟨_, q⟩ => ?_⟩
      have := q i (by omega) (by omega)
      omega
    · refine ⟨fun h => by simp at h, fun ⟨_, q⟩ => ?_⟩
      have := q i (by omega) (by omega)
      omega
    · rw [w64 (x := i + 1) (by omega) (by omega)]
      refine (validName_l0 b hb m (i + 1) (by omega) (by omega) (by omega)).imp fun r hr => ?_
      rw [hr]
      refine ⟨fun ⟨p, q⟩ => ⟨p, fun j j0 j1 => ?_⟩, fun ⟨p, q⟩ => ⟨p, fun j j0 j1 => q j (by omega) j1⟩⟩
      by_cases hj : j = i
      · subst hj; omega
      · exact q j (by omega) j1
theorem validName_ev (b : ByteArray) (hb : (b.size : Int) ≤ 1099511627776) : Evs (fun k => spec_validName.f k b) (fun r => r = true ↔ NameOk b) :=
  validName_l0 b hb _ 0 rfl (by omega) (by omega)
theorem from_here {P : Int → Prop} {i n : Int} (h : P i) : (∀ j : Int, i + 1 ≤ j → j < n → P j) → ∀ j : Int, i ≤ j → j < n → P j := fun q j j0 j1 => by
  by_cases e : j = i
  · subst e; exact h
  · exact q j (by omega) j1
theorem idxO_evs {α : Type} (p : Nat → α → Option Bool) (Q : α → Prop) (d : α) : ∀ (l : List α) (i : Int), (∀ x ∈ l, Evs (fun k => p k x) (fun r => r = true ↔ Q x)) →
    Evs (fun k => idxO (p k) l i) (fun r => (r = -1 ∧ ∀ x ∈ l, ¬ Q x) ∨ (i ≤ r ∧ r < i + l.length ∧ Q (l.getD (r - i).toNat d) ∧ ∀ j : Int, 0 ≤ j → j < r - i → ¬ Q (l.getD j.toNat d)))
  | [], i, h => Evs.ret (.inl ⟨rfl, fun x hx => by simp at hx⟩)
  | x :: xs, i, h => by
    refine Evs.bind (h x List.mem_cons_self) (fun b hb => Evs.ite (fun hc => Evs.ret ?_) (fun hc => ?_))
    · exact .inr ⟨by omega, by simp; omega, by simpa using hb.1 hc, fun j h0 h1 => by omega⟩
    · have hx : ¬ Q x := fun q => hc (hb.2 q)
      refine (idxO_evs p Q d xs (i + 1) (fun y hy => h y (List.mem_cons_of_mem _ hy))).imp fun r hr => ?_
      rcases hr with ⟨h2, h3⟩ | ⟨h2, h3, h4, h5⟩
      · refine .inl ⟨h2, fun y hy => ?_⟩
        rcases List.mem_cons.1 hy with rfl | hy
        · exact hx
        · exact h3 y hy
      · refine .inr ⟨by omega, by simp; omega, ?_, fun j j0 j1 => ?_⟩
        · rw [show (r - i).toNat = (r - (i + 1)).toNat + 1 by omega]
          simpa using h4
        · by_cases hj : j = 0
          · subst hj; simpa using hx
          · have := h5 (j - 1) (by omega) (by omega)
            rw [show j.toNat = (j - 1).toNat + 1 by omega]
            simpa using this
theorem idxO_some {α : Type} (p : Nat → α → Option Bool) (Q : α → Prop) (d : α) (l : List α) (h : ∀ x ∈ l, Evs (fun k => p k x) (fun r => r = true ↔ Q x)) :
    Evs (fun k => idxO (p k) l 0) (fun r => (0 ≤ r ↔ ∃ x ∈ l, Q x)) :=
  (idxO_evs p Q d l 0 h).imp fun r hr => by
    rcases hr with ⟨h2, h3⟩ | ⟨h2, h3, h4, h5⟩
    · exact ⟨fun q => by omega, fun ⟨x, hx, hq⟩ => absurd hq (h3 x hx)⟩
    · refine ⟨fun _ => ⟨_, ?_, h4⟩, fun _ => h2⟩
      rw [getD_nat _ _ _ (by omega)]
      exact List.getElem_mem _
end Go.Proofs.Ytdjdfflpdngohaa.Pure
