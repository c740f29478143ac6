/- The plain proof: what the printed functions tell. Conditions: none beyond the statement's own. -/
import Derived.Test.YtnacfppmlldbcaaCFnTopSplitPureKit
import Derived.Test.YtnacfppmlldbcaaCFnTopSplitPTx6
import Derived.Test.YtnacfppmlldbcaaCFnTopSplitPTx3
namespace Go.Proofs.Ytnacfppmlldbcaa.Pure
open Go.RowKit Go.Proofs.Ytnacfppmlldbcaa.PT Go.Proofs.YtnacfppmlldbcaaW.PrintWords
set_option linter.unusedVariables false
set_option linter.unusedSimpArgs false
theorem within_ev (a b c : Int) : Evs (fun _ => impl_within.f a b c) (fun r => r = true ↔ (b ≤ a ∧ a ≤ c)) := by
  unfold impl_within.f
  refine Evs.ite (fun h => Evs.ret ?_) (fun h => Evs.ret ?_) <;> simp <;> omega
theorem inRange_ev (a b c : Int) : Evs (fun _ => spec_inRange.f a b c) (fun r => r = true ↔ (b ≤ a ∧ a ≤ c)) := by
  unfold spec_inRange.f
  refine Evs.ite (fun h => Evs.ret ?_) (fun h => Evs.ret ?_) <;> simp <;> omega
def NameOk (b : ByteArray) : Prop := (1 ≤ (b.size : Int) ∧ (b.size : Int) ≤ 6) ∧ ∀ j : Int, 0 ≤ j → j < b.size → 97 ≤ bt b j ∧ bt b j ≤ 122
theorem nameOk_l0 (b : ByteArray) (hb : (b.size : Int) ≤ 9223372036854775807) : ∀ (m : Nat) (i : Int), ((b.size : Int) - i).toNat = m → 0 ≤ i → i ≤ b.size →
    Evs (fun k => impl_nameOk.l0 k b b.size i) (fun r => r = true ↔ ((1 ≤ (b.size : Int) ∧ (b.size : Int) ≤ 6) ∧ ∀ j : Int, i ≤ j → j < b.size → 97 ≤ bt b j ∧ bt b j ≤ 122))
  | 0, i, hm, h0, h1 => by
    refine Evs.step (fun k => by rw [impl_nameOk.l0]) (Evs.no (by omega) (Evs.bind (within_ev _ _ _) (fun r hr => Evs.ret ?_)))
    rw [hr]
    exact ⟨fun h => ⟨h, fun j _ _ => by omega⟩, fun h => h.1⟩
  | m + 1, i, hm, h0, h1 => by
    refine Evs.step (fun k => by rw [impl_nameOk.l0]) (Evs.yes (by omega) (Evs.yes h0 (Evs.yes (by omega) (Evs.ite (fun h => Evs.ret ?_) (fun h => Evs.ite (fun h' => Evs.ret ?_) (fun h' => ?_))))))
    · refine ⟨fun h => by simp at h, fun ⟨_, q⟩ => ?_⟩
      have := q i (by omega) (by omega)
      omega
    · refine ⟨fun h => by simp at h, fun ⟨_, q⟩ => ?_⟩
      have := q i (by omega) (by omega)
      omega
    · rw [w64 (x := i + 1) (by omega) (by omega)]
      refine (nameOk_l0 b hb m (i + 1) (by omega) (by omega) (by omega)).imp fun r hr => ?_
      rw [hr]
      refine ⟨fun ⟨p, q⟩ => ⟨p, fun j j0 j1 => ?_⟩, fun ⟨p, q⟩ => ⟨p, fun j j0 j1 => q j (by omega) j1⟩⟩
      by_cases hj : j = i
      · subst hj; omega
      · exact q j (by omega) j1
theorem nameOk_ev (b : ByteArray) (hb : (b.size : Int) ≤ 9223372036854775807) : Evs (fun k => impl_nameOk.f k b) (fun r => r = true ↔ NameOk b) :=
  nameOk_l0 b hb _ 0 rfl (by omega) (by omega)
theorem validName_l0 (b : ByteArray) (hb : (b.size : Int) ≤ 9223372036854775807) : ∀ (m : Nat) (i : Int), ((b.size : Int) - i).toNat = m → 0 ≤ i → i ≤ b.size →
    Evs (fun k => spec_validName.l0 k b i) (fun r => r = true ↔ ((1 ≤ (b.size : Int) ∧ (b.size : Int) ≤ 6) ∧ ∀ j : Int, i ≤ j → j < b.size → 97 ≤ bt b j ∧ bt b j ≤ 122))
  | 0, i, hm, h0, h1 => by
    refine Evs.step (fun k => by rw [spec_validName.l0]) (Evs.no (by omega) (Evs.bind (inRange_ev _ _ _) (fun r hr => Evs.ret ?_)))
    rw [hr]
    exact ⟨fun h => ⟨h, fun j _ _ => by omega⟩, fun h => h.1⟩
  | m + 1, i, hm, h0, h1 => by
    refine Evs.step (fun k => by rw [spec_validName.l0]) (Evs.yes (by omega) (Evs.yes h0 (Evs.ite (fun h => Evs.ret ?_) (fun h => Evs.ite (fun h' => Evs.ret ?_) (fun h' => ?_)))))
    · refine ⟨fun h => by simp at h, fun ⟨_, q⟩ => ?_⟩
      have := q i (by omega) (by omega)
      omega
    · refine ⟨fun h => by simp at h, fun ⟨_, q⟩ => ?_⟩
      have := q i (by omega) (by omega)
      omega
    · rw [w64 (x := i + 1) (by omega) (by omega)]
      refine (validName_l0 b hb m (i + 1) (by omega) (by omega) (by omega)).imp fun r hr => ?_
      rw [hr]
      refine ⟨fun ⟨p, q⟩ => ⟨p, fun j j0 j1 => ?_⟩, fun ⟨p, q⟩ => ⟨p, fun j j0 j1 => q j (by omega) j1⟩⟩
      by_cases hj : j = i
      · subst hj; omega
      · exact q j (by omega) j1
theorem validName_ev (b : ByteArray) (hb : (b.size : Int) ≤ 9223372036854775807) : Evs (fun k => spec_validName.f k b) (fun r => r = true ↔ NameOk b) :=
  validName_l0 b hb _ 0 rfl (by omega) (by omega)
theorem from_here {P : Int → Prop} {i n : Int} (h : P i) : (∀ j : Int, i + 1 ≤ j → j < n → P j) → ∀ j : Int, i ≤ j → j < n → P j := fun q j j0 j1 => by
  by_cases e : j = i
  · subst e; exact h
  · exact q j (by omega) j1
theorem idxO_spec {α : Type} (q : α → Bool) (d : α) : ∀ (l : List α) (i : Int), ∃ r, idxO (fun c => some (q c)) l i = some r ∧
    ((r = -1 ∧ ∀ j : Int, 0 ≤ j → j < l.length → q (l.getD j.toNat d) = false) ∨ (i ≤ r ∧ r < i + l.length ∧ q (l.getD (r - i).toNat d) = true ∧ ∀ j : Int, 0 ≤ j → j < r - i → q (l.getD j.toNat d) = false))
  | [], i => ⟨-1, rfl, .inl ⟨rfl, fun j h0 h1 => by simp at h1; omega⟩⟩
  | x :: xs, i => by
    cases hx : q x with
    | true => exact ⟨i, by simp [idxO, hx], .inr ⟨by omega, by simp; omega, by simpa using hx, fun j h0 h1 => by omega⟩⟩
    | false =>
      obtain ⟨r, h1, h2⟩ := idxO_spec q d xs (i + 1)
      refine ⟨r, by simp [idxO, hx, h1], ?_⟩
      rcases h2 with ⟨h2, h3⟩ | ⟨h2, h3, h4, h5⟩
      · refine .inl ⟨h2, fun j j0 j1 => ?_⟩
        by_cases hj : j = 0
        · subst hj; simpa using hx
        · have := h3 (j - 1) (by omega) (by simp at j1; omega)
          rw [show j.toNat = (j - 1).toNat + 1 by omega]
          simpa using this
      · refine .inr ⟨by omega, by simp; omega, ?_, fun j j0 j1 => ?_⟩
        · rw [show (r - i).toNat = (r - (i + 1)).toNat + 1 by omega]
          simpa using h4
        · by_cases hj : j = 0
          · subst hj; simpa using hx
          · have := h5 (j - 1) (by omega) (by omega)
            rw [show j.toNat = (j - 1).toNat + 1 by omega]
            simpa using this
end Go.Proofs.Ytnacfppmlldbcaa.Pure
