/- The plain proof: what the printed functions tell. Conditions: none beyond the statement's own. -/
import Derived.Test.YtdjdfflpdngohaaCFnInnerTracePureTrace
import Derived.Test.YtdjdfflpdngohaaCFnInnerTracePTx8
namespace Go.Proofs.Ytdjdfflpdngohaa.Pure
open Go.RowKit Go.Proofs.Ytdjdfflpdngohaa.PT Go.Proofs.YtdjdfflpdngohaaW.PrintWords
set_option linter.unusedVariables false
set_option linter.unusedSimpArgs false
def lns (n : ByteArray) : List S35 → List Int
  | [] => []
  | c :: cs => if c.f0.toList = n.toList then c.f1 :: lns n cs else lns n cs
theorem lns_length (n : ByteArray) : ∀ (t : List S35), (lns n t).length ≤ t.length
  | [] => by simp [lns]
  | c :: cs => by
    have := lns_length n cs
    unfold lns
    split <;> simp <;> omega
theorem drop_rdSF {t : List S35} {i : Int} (h0 : 0 ≤ i) (h : i < (t.length : Int)) : t.drop i.toNat = rd_T35 t i :: t.drop (i + 1).toNat := by
  unfold rd_T35
  rw [getD_nat _ _ _ (by omega), show (i + 1).toNat = i.toNat + 1 by omega]
  exact List.drop_eq_getElem_cons (by omega)
theorem iLines_l0 (t : List S35) (n : ByteArray) (ht : (t.length : Int) ≤ 12) (m : Nat) : ∀ (i : Int) (acc : List Int), ((t.length : Int) - i).toNat = m → 0 ≤ i → i ≤ t.length → acc.length + m ≤ 100 →
    Evs (fun k => impl_LinesOf.l0 k n acc t t.length i) (fun r => r = acc ++ lns n (t.drop i.toNat)) := by
  induction m with
  | zero =>
    intro i acc hm h0 h1 hl
    exact Evs.step (fun k => by rw [impl_LinesOf.l0]) (Evs.no (by omega) (Evs.ret (by rw [List.drop_eq_nil_of_le (by omega)]; simp [lns])))
  | succ m ih =>
    intro i acc hm h0 h1 hl
    have hi : i < (t.length : Int) := by omega
    rw [drop_rdSF h0 hi]
    refine Evs.step (fun k => by rw [impl_LinesOf.l0]) (Evs.yes hi (Evs.yes h0 (Evs.yes hi ?_)))
    rw [w64 (x := i + 1) (by omega) (by omega)]
    unfold lns
    refine Evs.ite (fun h => Evs.yes (by omega) ?_) (fun h => ?_)
    · rw [if_pos h]
      exact (ih (i + 1) _ (by omega) (by omega) (by omega) (by simp; omega)).imp fun r hr => by rw [hr]; simp
    · rw [if_neg h]
      exact ih (i + 1) _ (by omega) (by omega) (by omega) (by omega)
def LinesR (t : List S35) (n : ByteArray) (r : List Int) : Prop := (ValidTr t ∧ r = lns n t) ∨ (¬ ValidTr t ∧ r = [])
theorem LinesR.uniq {t : List S35} {n : ByteArray} {r s : List Int} (h : LinesR t n r) (k : LinesR t n s) : r = s := by
  rcases h with ⟨h1, h2⟩ | ⟨h1, h2⟩ <;> rcases k with ⟨k1, k2⟩ | ⟨k1, k2⟩
  · rw [h2, k2]
  · exact absurd h1 k1
  · exact absurd k1 h1
  · rw [h2, k2]
theorem LinesR.len {t : List S35} {n : ByteArray} {r : List Int} (h : LinesR t n r) : (r.length : Int) ≤ 12 := by
  rcases h with ⟨h1, h2⟩ | ⟨h1, h2⟩
  · have := h1.1
    have := lns_length n t
    rw [h2]; omega
  · rw [h2]; simp
theorem LinesOf_ev (t : List S35) (n : ByteArray) (ht : SmallTr t) : Evs (fun k => impl_LinesOf.f k t n) (LinesR t n) := by
  unfold impl_LinesOf.f
  refine Evs.bind (ValidTrace_ev t ht) (fun a ha => Evs.ite (fun h => ?_) (fun h => Evs.ret (.inr ⟨fun q => h (ha.2 q), rfl⟩)))
  have hv := ha.1 h
  have := hv.1
  exact Evs.yes (by omega) (Evs.yes (by omega) ((iLines_l0 t n hv.1 _ 0 [] rfl (by omega) (by omega) (by simp; omega)).imp fun r hr => .inl ⟨hv, by rw [hr]; simp⟩))
end Go.Proofs.Ytdjdfflpdngohaa.Pure
