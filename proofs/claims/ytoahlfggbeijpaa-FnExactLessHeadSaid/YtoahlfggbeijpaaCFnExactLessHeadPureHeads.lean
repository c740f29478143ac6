/- The plain proof: what the printed functions tell. Conditions: none beyond the statement's own. -/
import Derived.Test.YtoahlfggbeijpaaCFnExactLessHeadPureTrace
import Derived.WideShapes
import Derived.Test.YtoahlfggbeijpaaCFnExactLessHeadPTx5
import Derived.Test.YtoahlfggbeijpaaCFnExactLessHeadPTx7
import Derived.Test.YtoahlfggbeijpaaCFnExactLessHeadPTx6
namespace Go.Proofs.Ytoahlfggbeijpaa.Pure
open Go.RowKit Go.Proofs.Ytoahlfggbeijpaa.PT Go.Proofs.YtoahlfggbeijpaaW.PrintWords
set_option linter.unusedVariables false
set_option linter.unusedSimpArgs false
theorem tl_inj {a b : ByteArray} (h : a.toList = b.toList) : a = b := by
  rw [ByteArray.toList_eq, ByteArray.toList_eq] at h
  exact Go.WideShapes.bytes_inj h
theorem same_iff (a b : S48) : ((a.f0.toList == b.f0.toList) && (a.f1 == b.f1)) = true ↔ a = b := by
  rw [Bool.and_eq_true, beq_iff_eq, beq_iff_eq]
  refine ⟨fun ⟨h, k⟩ => ?_, fun h => by subst h; exact ⟨rfl, rfl⟩⟩
  cases a
  cases b
  have := tl_inj h
  simp only at this k
  rw [this, k]
theorem copyFrames_ev (t : List S48) (ht : (t.length : Int) ≤ 1099511627776) : Evs (fun _ => spec_copyFrames.f t) (fun r => r = t) := by
  unfold spec_copyFrames.f
  refine Evs.const (a := t) ?_ rfl
  simp only [Option.bind_some, List.length_nil, List.nil_append]
  rw [if_pos (by omega)]
def Head (t u : List S48) (r : Int) : Prop := (0 ≤ r ∧ r ≤ t.length ∧ r ≤ u.length) ∧ (∀ j : Int, 0 ≤ j → j < r → rd_T48 t j = rd_T48 u j) ∧ (r < t.length → r < u.length → rd_T48 t r ≠ rd_T48 u r)
theorem Head.uniq {t u : List S48} {r s : Int} (h : Head t u r) (k : Head t u s) : r = s := by
  obtain ⟨⟨h1, h2, h3⟩, h4, h5⟩ := h
  obtain ⟨⟨k1, k2, k3⟩, k4, k5⟩ := k
  by_cases hlt : r < s
  · exact absurd (k4 r h1 hlt) (h5 (by omega) (by omega))
  · by_cases hlt' : s < r
    · exact absurd (h4 s k1 hlt') (k5 (by omega) (by omega))
    · omega
theorem upto_next {P : Int → Prop} {i : Int} (hj : ∀ j : Int, 0 ≤ j → j < i → P j) (h : P i) : ∀ j : Int, 0 ≤ j → j < i + 1 → P j := fun j j0 j1 => by
  by_cases e : j = i
  · subst e; exact h
  · exact hj j j0 (by omega)
theorem ihead_l0 (t u : List S48) (ht : (t.length : Int) ≤ 1099511627776) : ∀ (m : Nat) (i : Int), ((t.length : Int) - i).toNat = m → 0 ≤ i → i ≤ t.length → i ≤ u.length →
    (∀ j : Int, 0 ≤ j → j < i → rd_T48 t j = rd_T48 u j) → Evs (fun k => impl_head.l0 k t u i) (Head t u)
  | m, i, hm, h0, h1, h2, hj => by
    have go : i < t.length → i < u.length → rd_T48 t i = rd_T48 u i → Evs (fun k => impl_head.l0 k t u (wrap64 (i + 1))) (Head t u) := fun a b h => by
      rw [w64 (x := i + 1) (by omega) (by omega)]
      cases m with
      | zero => omega
      | succ m => exact ihead_l0 t u ht m (i + 1) (by omega) (by omega) (by omega) (by omega) (upto_next (P := fun j => rd_T48 t j = rd_T48 u j) hj h)
    refine Evs.step (fun k => by rw [impl_head.l0]) (Evs.ite (fun hl => ?_) (fun hl => ?_))
    · refine Evs.ite (fun h => Evs.yes h0 (Evs.yes (by omega) (Evs.ite (fun q => go (by omega) h ((same_iff _ _).1 q)) (fun q => Evs.ret ⟨⟨h0, h1, h2⟩, hj, fun _ _ e => q ((same_iff _ _).2 e)⟩)))) (fun h => Evs.ret ⟨⟨h0, h1, h2⟩, hj, fun _ b => absurd b h⟩)
    · refine Evs.ite (fun h => Evs.yes h0 (Evs.yes (by omega) (Evs.ite (fun q => go h (by omega) ((same_iff _ _).1 q)) (fun q => Evs.ret ⟨⟨h0, h1, h2⟩, hj, fun _ _ e => q ((same_iff _ _).2 e)⟩)))) (fun h => Evs.ret ⟨⟨h0, h1, h2⟩, hj, fun a _ => absurd a h⟩)
theorem ihead_ev (t u : List S48) (ht : (t.length : Int) ≤ 1099511627776) : Evs (fun k => impl_head.f k t u) (Head t u) :=
  ihead_l0 t u ht _ 0 rfl (by omega) (by omega) (by omega) (fun j _ _ => by omega)
theorem shead_l0 (t u : List S48) (ht : (t.length : Int) ≤ 1099511627776) : ∀ (m : Nat) (i : Int), ((t.length : Int) - i).toNat = m → 0 ≤ i → i ≤ t.length → i ≤ u.length →
    (∀ j : Int, 0 ≤ j → j < i → rd_T48 t j = rd_T48 u j) → Evs (fun k => spec_commonHead.l0 k t u i) (Head t u)
  | m, i, hm, h0, h1, h2, hj => by
    have go : i < t.length → i < u.length → rd_T48 t i = rd_T48 u i → Evs (fun k => spec_commonHead.l0 k t u (wrap64 (i + 1))) (Head t u) := fun a b h => by
      rw [w64 (x := i + 1) (by omega) (by omega)]
      cases m with
      | zero => omega
      | succ m => exact shead_l0 t u ht m (i + 1) (by omega) (by omega) (by omega) (by omega) (upto_next (P := fun j => rd_T48 t j = rd_T48 u j) hj h)
    refine Evs.step (fun k => by rw [spec_commonHead.l0]) (Evs.ite (fun h => Evs.ite (fun h' => Evs.yes h0 (Evs.ite (fun q => go h h' ((same_iff _ _).1 q)) (fun q => Evs.ret ⟨⟨h0, h1, h2⟩, hj, fun _ _ e => q ((same_iff _ _).2 e)⟩))) (fun h' => Evs.ret ⟨⟨h0, h1, h2⟩, hj, fun _ b => absurd b h'⟩)) (fun h => Evs.ret ⟨⟨h0, h1, h2⟩, hj, fun a _ => absurd a h⟩))
theorem shead_ev (t u : List S48) (ht : (t.length : Int) ≤ 1099511627776) : Evs (fun k => spec_commonHead.f k t u) (Head t u) :=
  shead_l0 t u ht _ 0 rfl (by omega) (by omega) (by omega) (fun j _ _ => by omega)
end Go.Proofs.Ytoahlfggbeijpaa.Pure
