/- The plain proof: what the printed functions tell. Conditions: none beyond the statement's own. -/
import Derived.Test.YtnacfppmlldbcaaCFnTopSplitPureTree
import Derived.Test.YtnacfppmlldbcaaCFnTopSplitPTx12
import Derived.Test.YtnacfppmlldbcaaCFnTopSplitPTx5
import Derived.Test.YtnacfppmlldbcaaCFnTopSplitPTx9
namespace Go.Proofs.Ytnacfppmlldbcaa.Pure
open Go.RowKit Go.Proofs.Ytnacfppmlldbcaa.PT Go.Proofs.YtnacfppmlldbcaaW.PrintWords
set_option linter.unusedVariables false
set_option linter.unusedSimpArgs false
def HasC (t : List S51) (a : Int) : Prop := 0 ≤ a ∧ a < (t.length : Int)
instance HasC.dec (t : List S51) (a : Int) : Decidable (HasC t a) := inferInstanceAs (Decidable (0 ≤ a ∧ a < (t.length : Int)))
theorem has_eq (t : List S51) (a : Int) (ht : SmallT t) : impl_Tree_has.f t a = some (decide (HasC t a)) := by
  obtain ⟨k, r, h1, h2⟩ := (within_ev a 0 (wrap64 ((t.length : Int) - 1))).rounds
  have hl := ht.1
  rw [w64 (x := (t.length : Int) - 1) (by omega) (by omega)] at h1 h2
  unfold impl_Tree_has.f
  rw [w64 (x := (t.length : Int) - 1) (by omega) (by omega), h1]
  simp only [Option.bind_some, Option.some.injEq]
  rw [Bool.eq_iff_iff, h2]
  rw [decide_eq_true_iff]
  unfold HasC
  omega
theorem classesIn_ev (t : List S51) (l : List Int) (ht : SmallT t) : Evs (fun k => impl_classesIn.f k t l) (fun r => r = true ↔ (ValidT t ∧ ∀ a ∈ l, HasC t a)) := by
  unfold impl_classesIn.f
  refine Evs.bind (ValidTree_ev t ht) (fun v hv => Evs.ite (fun h => ?_) (fun h => Evs.ret ⟨fun q => by simp at q, fun q => absurd (hv.2 q.1) h⟩))
  have e : (fun a => (impl_Tree_has.f t a).bind fun h => some (!h)) = fun a => some (!decide (HasC t a)) := by
    funext a
    rw [has_eq t a ht]
    rfl
  rw [e]
  obtain ⟨r, h1, h2⟩ := idxO_spec (fun a => !decide (HasC t a)) 0 l 0
  refine Evs.bind (Evs.const (P := fun x => x = r) h1 rfl) (fun x e => Evs.ret ?_)
  subst e
  rcases h2 with ⟨h2, h3⟩ | ⟨h2, h3, h4, h5⟩
  · subst h2
    refine ⟨fun _ => ⟨hv.1 h, fun a ha => ?_⟩, fun _ => by simp⟩
    obtain ⟨j, hj, rfl⟩ := List.getElem_of_mem ha
    have := h3 j (by omega) (by omega)
    rw [Int.toNat_natCast, getD_nat _ _ _ hj] at this
    simpa using this
  · refine ⟨fun q => by simp at q; omega, fun q => ?_⟩
    rw [getD_nat _ _ _ (by omega)] at h4
    have := q.2 _ (List.getElem_mem (h := show (x - 0).toNat < l.length by omega))
    rw [decide_eq_true this] at h4
    simp at h4
theorem hasClass_ev (t : List S51) (a : Int) (ht : SmallT t) : Evs (fun _ => spec_hasClass.f t a) (fun r => r = true ↔ HasC t a) := by
  have hl := ht.1
  unfold spec_hasClass.f
  rw [w64 (x := (t.length : Int) - 1) (by omega) (by omega)]
  refine Evs.bind (inRange_ev _ _ _) (fun r hr => Evs.ret ?_)
  rw [hr]
  unfold HasC
  omega
def IsWay (t : List S51) : Int → List Int → Prop
  | a, [] => a < 0
  | a, x :: xs => x = a ∧ HasC t a ∧ IsWay t (rd_T51 t a).f1 xs
theorem IsWay.uniq {t : List S51} : ∀ {a : Int} {r s : List Int}, IsWay t a r → IsWay t a s → r = s
  | a, [], [], _, _ => rfl
  | a, [], y :: ys, h, k => by have := k.2.1.1; simp only [IsWay] at h; omega
  | a, x :: xs, [], h, k => by have := h.2.1.1; simp only [IsWay] at k; omega
  | a, x :: xs, y :: ys, h, k => by rw [h.1, k.1, h.2.2.uniq k.2.2]
theorem ValidT.up {t : List S51} (h : ValidT t) {a : Int} (ha : HasC t a) : -1 ≤ (rd_T51 t a).f1 ∧ (rd_T51 t a).f1 < a ∧ ((rd_T51 t a).f1 = -1 → a = 0) := by
  have := h.2 a ha.1 ha.2
  by_cases h0 : a = 0
  · have := this.2.2.1 h0; omega
  · have := this.2.2.2 (by have := ha.1; omega); omega
theorem iabove_l0 (t : List S51) (hv : ValidT t) : ∀ (n : Nat) (a : Int) (acc : List Int), (a + 1).toNat ≤ n → -1 ≤ a → a < (t.length : Int) → acc.length + n ≤ 100 →
    Evs (fun k => impl_Tree_above.l0 k a acc t) (fun r => ∃ s, r = acc ++ s ∧ IsWay t a s ∧ s.length ≤ n)
  | 0, a, acc, hn, h0, h1, hl => by
    refine Evs.step (fun k => by rw [impl_Tree_above.l0]) (Evs.no (by omega) (Evs.ret ⟨[], by simp, by simp only [IsWay]; omega, by simp⟩))
  | n + 1, a, acc, hn, h0, h1, hl => by
    refine Evs.step (fun k => by rw [impl_Tree_above.l0]) (Evs.ite (fun hp => ?_) (fun hp => Evs.ret ⟨[], by simp, by simp only [IsWay]; omega, by simp⟩))
    have ha : HasC t a := ⟨by omega, h1⟩
    have hu := hv.up ha
    refine Evs.yes (by omega) (Evs.yes (by omega) (Evs.yes h1 ?_))
    exact (iabove_l0 t hv n _ (acc ++ [a]) (by omega) hu.1 (by omega) (by simp; omega)).imp fun r ⟨s, e1, e2, e3⟩ => ⟨a :: s, by simp [e1], ⟨rfl, ha, e2⟩, by simp; omega⟩
theorem iabove_ev (t : List S51) (a : Int) (hv : ValidT t) (ha : HasC t a) : Evs (fun k => impl_Tree_above.f k t a) (fun r => IsWay t a r ∧ r.length ≤ 8) := by
  have := ha.1
  have := ha.2
  have := hv.1
  unfold impl_Tree_above.f
  refine Evs.yes (by omega) (Evs.yes (by omega) ?_)
  refine (iabove_l0 t hv 8 a [] (by omega) (by omega) ha.2 (by simp)).imp fun r ⟨s, e1, e2, e3⟩ => ?_
  rw [List.nil_append] at e1
  subst e1
  exact ⟨e2, e3⟩
theorem sabove_l0 (t : List S51) (hv : ValidT t) : ∀ (n : Nat) (a : Int) (acc : List Int), (a + 1).toNat ≤ n → -1 ≤ a → a < (t.length : Int) → acc.length + n ≤ 100 →
    Evs (fun k => spec_above.l0 k a acc t) (fun r => ∃ s, r = acc ++ s ∧ IsWay t a s ∧ s.length ≤ n)
  | 0, a, acc, hn, h0, h1, hl => by
    refine Evs.step (fun k => by rw [spec_above.l0]) (Evs.no (by omega) (Evs.ret ⟨[], by simp, by simp only [IsWay]; omega, by simp⟩))
  | n + 1, a, acc, hn, h0, h1, hl => by
    refine Evs.step (fun k => by rw [spec_above.l0]) (Evs.ite (fun hp => ?_) (fun hp => Evs.ret ⟨[], by simp, by simp only [IsWay]; omega, by simp⟩))
    have ha : HasC t a := ⟨by omega, h1⟩
    have hu := hv.up ha
    refine Evs.yes (by omega) (Evs.yes (by omega) (Evs.yes h1 ?_))
    exact (sabove_l0 t hv n _ (acc ++ [a]) (by omega) hu.1 (by omega) (by simp; omega)).imp fun r ⟨s, e1, e2, e3⟩ => ⟨a :: s, by simp [e1], ⟨rfl, ha, e2⟩, by simp; omega⟩
theorem sabove_ev (t : List S51) (a : Int) (hv : ValidT t) (ha : HasC t a) : Evs (fun k => spec_above.f k t a) (fun r => IsWay t a r ∧ r.length ≤ 8) := by
  have := ha.1
  have := ha.2
  have := hv.1
  unfold spec_above.f
  refine (sabove_l0 t hv 8 a [] (by omega) (by omega) ha.2 (by simp)).imp fun r ⟨s, e1, e2, e3⟩ => ?_
  rw [List.nil_append] at e1
  subst e1
  exact ⟨e2, e3⟩
end Go.Proofs.Ytnacfppmlldbcaa.Pure
