/- The plain proof: what the printed functions tell. Conditions: none beyond the statement's own. -/
import Derived.Test.YtnoekddnacnopaaCFnExactCommonClassPureBelow
import Derived.Test.YtnoekddnacnopaaCFnExactCommonClassPTx0
import Derived.Test.YtnoekddnacnopaaCFnExactCommonClassPTx1
import Derived.Test.YtnoekddnacnopaaCFnExactCommonClassPTx3
import Derived.Test.YtnoekddnacnopaaCFnExactCommonClassPTx4
import Derived.Test.YtnoekddnacnopaaCFnExactCommonClassPTx5
import Derived.Test.YtnoekddnacnopaaCFnExactCommonClassPTx7
import Derived.Test.YtnoekddnacnopaaCFnExactCommonClassPTx9
import Derived.Test.YtnoekddnacnopaaCFnExactCommonClassPTx13
import Derived.Test.YtnoekddnacnopaaCFnExactCommonClassPTx14
namespace Go.Proofs.Ytnoekddnacnopaa.Pure
open Go.RowKit Go.Proofs.Ytnoekddnacnopaa.PT Go.Proofs.YtnoekddnacnopaaW.PrintWords Go.Proofs.YtnoekddnacnopaaW.PrintLast
set_option linter.unusedVariables false
def Meets (t : List S67) (b : Int) (w : List Int) (i r : Int) : Prop := ∃ j : Int, i ≤ j ∧ j < w.length ∧ rd w j = r ∧ Bel t b r ∧ ∀ l : Int, i ≤ l → l < j → ¬ Bel t b (rd w l)
theorem meets_next {t : List S67} {b : Int} {w : List Int} {i r : Int} (hn : ¬ Bel t b (rd w i)) (h : Meets t b w (i + 1) r) : Meets t b w i r := by
  obtain ⟨j, h1, h2, h3, h4, h5⟩ := h
  exact ⟨j, by omega, h2, h3, h4, from_here (P := fun l => ¬ Bel t b (rd w l)) hn h5⟩
theorem iCommon_l0 (t : List S67) (b : Int) (w : List Int) (hv : ValidT t) (hb : HasC t b) (hl : w.length ≤ 8) : ∀ (m : Nat) (i : Int), ((w.length : Int) - i).toNat = m → 0 ≤ i → i ≤ w.length →
    (∃ j : Int, i ≤ j ∧ j < w.length ∧ Bel t b (rd w j)) → Evs (fun k => impl_CommonClass.l0 k b w w.length i t) (Meets t b w i)
  | 0, i, hm, h0, h1, ⟨j, j0, j1, _⟩ => by omega
  | m + 1, i, hm, h0, h1, he => by
    refine Evs.step (fun k => by rw [impl_CommonClass.l0]) (Evs.yes (by omega) (Evs.yes h0 (Evs.yes (by omega) (Evs.bind (Tree_is_ev t b (rd w i) hv hb) (fun c hc => Evs.ite (fun h => Evs.ret ⟨i, by omega, by omega, rfl, hc.1 h, fun l a b => by omega⟩) (fun h => ?_))))))
    have hn : ¬ Bel t b (rd w i) := fun q => h (hc.2 q)
    rw [w64 (x := i + 1) (by omega) (by omega)]
    exact (iCommon_l0 t b w hv hb hl m (i + 1) (by omega) (by omega) (by omega) ((exists_here (P := fun j => Bel t b (rd w j)) hn).2 he)).imp fun r hr => meets_next hn hr
theorem sCommon_l0 (t : List S67) (b : Int) (w : List Int) (hv : ValidT t) (hb : HasC t b) (hl : w.length ≤ 8) : ∀ (m : Nat) (i : Int), ((w.length : Int) - i).toNat = m → 0 ≤ i → i ≤ w.length →
    (∃ j : Int, i ≤ j ∧ j < w.length ∧ Bel t b (rd w j)) → Evs (fun k => spec_CommonClass.l0 k b w i t) (Meets t b w i)
  | 0, i, hm, h0, h1, ⟨j, j0, j1, _⟩ => by omega
  | m + 1, i, hm, h0, h1, he => by
    refine Evs.step (fun k => by rw [spec_CommonClass.l0]) (Evs.yes h0 (Evs.yes (by omega) (Evs.bind (isA_ev t b (rd w i) hv hb) (fun c hc => Evs.ite (fun h => Evs.ret ⟨i, by omega, by omega, rfl, hc.1 h, fun l a b => by omega⟩) (fun h => ?_)))))
    have hn : ¬ Bel t b (rd w i) := fun q => h (hc.2 q)
    rw [w64 (x := i + 1) (by omega) (by omega)]
    exact (sCommon_l0 t b w hv hb hl m (i + 1) (by omega) (by omega) (by omega) ((exists_here (P := fun j => Bel t b (rd w j)) hn).2 he)).imp fun r hr => meets_next hn hr
def Lowest (t : List S67) (a b r : Int) : Prop := ((ValidT t ∧ HasC t a ∧ HasC t b) ∧ Bel t a r ∧ Bel t b r ∧ ∀ x, Bel t a x → Bel t b x → Bel t r x) ∨ (¬ (ValidT t ∧ HasC t a ∧ HasC t b) ∧ r = -1)
theorem Lowest.uniq {t : List S67} {a b r s : Int} (h : Lowest t a b r) (k : Lowest t a b s) : r = s := by
  rcases h with ⟨h1, h2, h3, h4⟩ | ⟨h1, h2⟩ <;> rcases k with ⟨k1, k2, k3, k4⟩ | ⟨k1, k2⟩
  · exact (h4 s k2 k3).anti h1.1 (k4 r h2 h3)
  · exact absurd h1 k1
  · exact absurd k1 h1
  · omega
theorem Lowest.symm {t : List S67} {a b r : Int} (h : Lowest t a b r) : Lowest t b a r := by
  rcases h with ⟨h1, h2, h3, h4⟩ | ⟨h1, h2⟩
  · exact .inl ⟨⟨h1.1, h1.2.2, h1.2.1⟩, h3, h2, fun x p q => h4 x q p⟩
  · exact .inr ⟨fun q => h1 ⟨q.1, q.2.2, q.2.1⟩, h2⟩
theorem IsWay.later {t : List S67} : ∀ {a : Int} {w : List Int}, IsWay t a w → ∀ i j : Int, 0 ≤ i → i ≤ j → j < w.length → Bel t (rd w i) (rd w j)
  | a, [], h, i, j, h0, h1, h2 => by simp at h2; omega
  | a, x :: xs, h, i, j, h0, h1, h2 => by
    by_cases e : i = 0
    · subst e
      refine ⟨x :: xs, by rw [rd_cons_zero, h.1]; exact ⟨rfl, h.2⟩, rd_mem (by omega) h2⟩
    · rw [rd_cons _ _ (by omega), rd_cons _ _ (by omega)]
      exact h.2.2.later (i - 1) (j - 1) (by omega) (by omega) (by simp at h2; omega)
theorem lowest_of {t : List S67} {a b r : Int} {w : List Int} (hv : ValidT t) (ha : HasC t a) (hb : HasC t b) (hw : IsWay t a w) (h : Meets t b w 0 r) : Lowest t a b r := by
  obtain ⟨j, h1, h2, h3, h4, h5⟩ := h
  refine .inl ⟨⟨hv, ha, hb⟩, ?_, h4, fun x hx hy => ?_⟩
  · rw [← h3]; exact (Bel.of_way hw).1 (rd_mem h1 h2)
  · obtain ⟨l, l0, l1, rfl⟩ := mem_rd.1 ((Bel.of_way hw).2 hx)
    by_cases e : l < j
    · exact absurd hy (h5 l l0 e)
    · rw [← h3]; exact hw.later j l h1 (by omega) l1
theorem meets_some {t : List S67} {a b : Int} {w : List Int} (hv : ValidT t) (ha : HasC t a) (hb : HasC t b) (hw : IsWay t a w) : ∃ j : Int, 0 ≤ j ∧ j < w.length ∧ Bel t b (rd w j) := by
  obtain ⟨j, j0, j1, e⟩ := mem_rd.1 (hw.root hv ha)
  exact ⟨j, j0, j1, by rw [e]; exact Bel.root hv hb⟩
theorem CommonClass_ev (t : List S67) (a b : Int) (ht : SmallT t) : Evs (fun k => impl_CommonClass.f k t a b) (Lowest t a b) := by
  unfold impl_CommonClass.f
  refine Evs.bind (classesIn_ev t [a, b] ht) (fun v hv => Evs.ite (fun h => ?_) (fun h => Evs.ret (.inr ⟨fun q => h (hv.2 ⟨q.1, by simpa using q.2⟩), rfl⟩)))
  obtain ⟨hg, hh⟩ := hv.1 h
  have ha := hh a (by simp)
  have hb := hh b (by simp)
  refine Evs.bind (iabove_ev t a hg ha) (fun w hw => ?_)
  exact (iCommon_l0 t b w hg hb hw.2 _ 0 rfl (by omega) (by omega) (meets_some hg ha hb hw.1)).imp fun r hr => lowest_of hg ha hb hw.1 hr
theorem sCommonClass_ev (t : List S67) (a b : Int) (ht : SmallT t) : Evs (fun k => spec_CommonClass.f k t a b) (Lowest t a b) := by
  unfold spec_CommonClass.f
  have bad : ¬ (ValidT t ∧ HasC t a ∧ HasC t b) → Evs (fun k => spec_CommonClass.j0 k a b true t) (Lowest t a b) := fun hn =>
    Evs.step (fun k => by rw [spec_CommonClass.j0]) (Evs.yes rfl (Evs.ret (.inr ⟨hn, rfl⟩)))
  refine Evs.bind (goodClass_ev t a ht) (fun v hv => Evs.ite (fun h => ?_) (fun h => bad fun q => h (hv.2 ⟨q.1, q.2.1⟩)))
  obtain ⟨hg, ha⟩ := hv.1 h
  refine Evs.bind (hasClass_ev t b ht) (fun c hc => ?_)
  cases c with
  | false => exact bad fun q => by have := hc.2 q.2.2; simp at this
  | true =>
    have hb := hc.1 rfl
    refine Evs.step (fun k => by rw [spec_CommonClass.j0]) (Evs.no (by simp) (Evs.bind (sabove_ev t a hg ha) (fun w hw => ?_)))
    exact (sCommon_l0 t b w hg hb hw.2 _ 0 rfl (by omega) (by omega) (meets_some hg ha hb hw.1)).imp fun r hr => lowest_of hg ha hb hw.1 hr
end Go.Proofs.Ytnoekddnacnopaa.Pure
