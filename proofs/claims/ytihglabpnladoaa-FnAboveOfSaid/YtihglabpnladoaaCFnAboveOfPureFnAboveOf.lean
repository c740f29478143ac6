/- The plain proof: what the printed functions tell. Conditions: none beyond the statement's own. -/
import Derived.Test.YtihglabpnladoaaCFnAboveOfPureClass
import Derived.Test.YtihglabpnladoaaCFnAboveOfPTx10
import Derived.Test.YtihglabpnladoaaCFnAboveOfPTx11
namespace Go.Proofs.Ytihglabpnladoaa.Pure
open Go.RowKit Go.Proofs.Ytihglabpnladoaa.PT Go.Proofs.YtihglabpnladoaaW.PrintWords Go.Proofs.YtihglabpnladoaaW.PrintLast
set_option linter.unusedVariables false
theorem draw_AboveOf (l : List Int) (h : Bytes l) : Evs (fun k => spec_DrawAboveOf.f k l) (fun r => OkT r.1) := by
  unfold spec_DrawAboveOf.f
  obtain ⟨r, h1, h2, h3⟩ := newReader_ev l h
  refine Evs.bind (Evs.const (P := fun x => x = r) h1 rfl) (fun _ e => ?_)
  subst e
  exact Evs.bind (someTree_ev _ _ h2 (by omega) (by omega)) (fun t ⟨t1, t2, t3⟩ => Evs.bind (aClass_ev _ _ _ h2 t2 (by omega) t1) (fun _ _ => Evs.ret t1))
def Above (t : List S34) (a : Int) (r : List Int) : Prop := r.length ≤ 8 ∧ (((ValidT t ∧ HasC t a) ∧ IsWay t a r) ∨ (¬ (ValidT t ∧ HasC t a) ∧ r = []))
theorem Above.uniq {t : List S34} {a : Int} {r s : List Int} (h : Above t a r) (k : Above t a s) : r = s := by
  rcases h with ⟨_, ⟨h1, h2⟩ | ⟨h1, h2⟩⟩ <;> rcases k with ⟨_, ⟨k1, k2⟩ | ⟨k1, k2⟩⟩
  · exact h2.uniq k2
  · exact absurd h1 k1
  · exact absurd k1 h1
  · rw [h2, k2]
theorem AboveOf_ev (t : List S34) (a : Int) (ht : SmallT t) : Evs (fun k => impl_AboveOf.f k t a) (Above t a) := by
  unfold impl_AboveOf.f
  refine Evs.bind (classesIn_ev t [a] ht) (fun v hv => Evs.ite (fun h => ?_) (fun h => Evs.ret ⟨by simp, .inr ⟨fun q => h (hv.2 ⟨q.1, by simpa using q.2⟩), rfl⟩⟩))
  have hg : ValidT t ∧ HasC t a := ⟨(hv.1 h).1, (hv.1 h).2 a (by simp)⟩
  exact Evs.bind (iabove_ev t a hg.1 hg.2) (fun r hr => Evs.ret ⟨hr.2, .inl ⟨hg, hr.1⟩⟩)
theorem sAboveOf_ev (t : List S34) (a : Int) (ht : SmallT t) : Evs (fun k => spec_AboveOf.f k t a) (Above t a) := by
  unfold spec_AboveOf.f
  refine Evs.bind (goodClass_ev t a ht) (fun v hv => Evs.ite (fun h => ?_) (fun h => Evs.ret ⟨by simp, .inr ⟨fun q => h (hv.2 q), rfl⟩⟩))
  exact Evs.bind (sabove_ev t a (hv.1 h).1 (hv.1 h).2) (fun r hr => Evs.ret ⟨hr.2, .inl ⟨hv.1 h, hr.1⟩⟩)
theorem IsWay.steps {t : List S34} : ∀ {a : Int} {r : List Int}, IsWay t a r → ∀ i : Int, 1 ≤ i → i < r.length → HasC t (rd r (i - 1)) ∧ (rd_T34 t (rd r (i - 1))).f1 = rd r i
  | a, [], h, i, h0, h1 => by simp at h1; omega
  | a, [x], h, i, h0, h1 => by simp at h1; omega
  | a, x :: y :: ys, h, i, h0, h1 => by
    by_cases e : i = 1
    · subst e
      rw [Int.sub_self, rd_cons_zero, rd_cons _ _ (by omega), Int.sub_self, rd_cons_zero, h.1]
      exact ⟨h.2.1, h.2.2.1.symm⟩
    · rw [rd_cons x _ (i := i - 1) (by omega), rd_cons x _ (i := i) (by omega)]
      exact h.2.2.steps (i - 1) (by omega) (by simp at h1 ⊢; omega)
theorem IsWay.last {t : List S34} (hv : ValidT t) : ∀ {a : Int} {r : List Int}, IsWay t a r → HasC t a → 1 ≤ (r.length : Int) ∧ rd r 0 = a ∧ rd r (r.length - 1) = 0
  | a, [], h, ha => by have := ha.1; simp only [IsWay] at h; omega
  | a, [x], h, ha => by
    refine ⟨by simp, h.1, ?_⟩
    have h2 := h.2.2
    simp only [IsWay] at h2
    have := hv.up ha
    have := h.1
    show x = 0
    omega
  | a, x :: y :: ys, h, ha => by
    have h2 := h.2.2
    have := h2.last hv h2.2.1
    have hl : ((x :: y :: ys).length : Int) = ((y :: ys).length : Int) + 1 := by simp
    refine ⟨by omega, h.1, ?_⟩
    rw [rd_cons _ _ (by omega)]
    have e : ((x :: y :: ys).length : Int) - 1 - 1 = ((y :: ys).length : Int) - 1 := by omega
    rw [e]
    exact this.2.2
theorem FnAboveOf_l0 (t : List S34) (a : Int) (r : List Int) (hv : ValidT t) (ha : HasC t a) (hr : IsWay t a r) (hl : r.length ≤ 8) : ∀ (m : Nat) (i : Int), ((r.length : Int) - i).toNat = m → 1 ≤ i → i ≤ r.length →
    Evs (fun k => laws_FnAboveOf.l0 k a r i t) (fun b => b = true)
  | 0, i, hm, h0, h1 => by
    obtain ⟨e1, e2, e3⟩ := hr.last hv ha
    refine Evs.step (fun k => by rw [laws_FnAboveOf.l0]) (Evs.no (by omega) (Evs.yes (by omega) (Evs.yes e2 ?_)))
    rw [w64 (x := (r.length : Int) - 1) (by omega) (by omega)]
    exact Evs.yes (by omega) (Evs.yes (by omega) (Evs.ret (by simp [e3])))
  | m + 1, i, hm, h0, h1 => by
    obtain ⟨e1, e2⟩ := hr.steps i h0 (by omega)
    refine Evs.step (fun k => by rw [laws_FnAboveOf.l0]) (Evs.yes (by omega) ?_)
    rw [w64 (x := i - 1) (by omega) (by omega), w64 (x := i + 1) (by omega) (by omega)]
    refine Evs.yes (by omega) (Evs.yes (by omega) (Evs.yes e1.1 (Evs.yes e1.2 (Evs.yes (by omega) (Evs.yes e2 ?_)))))
    exact FnAboveOf_l0 t a r hv ha hr hl m (i + 1) (by omega) (by omega) (by omega)
theorem FnAboveOf_j0 (t : List S34) (a : Int) (r : List Int) (x : Bool) (ht : OkT t) (hr : Above t a r) (hx : x = false → 1 ≤ (r.length : Int)) :
    Evs (fun k => laws_FnAboveOf.j0 k a r x t) (fun b => b = true) := by
  have hl := hr.1
  refine Evs.step (fun k => by rw [laws_FnAboveOf.j0]) (Evs.ite (fun h => ?_) (fun h => ?_))
  · refine Evs.bind (sAboveOf_ev t a ht.small) (fun s hs => Evs.bind (equalInts_ev r s (by omega)) (fun e he => Evs.ret (he.2 (hr.uniq hs))))
  · have h1 := hx (by simpa using h)
    rcases hr with ⟨_, ⟨hg, hr⟩ | ⟨_, hr⟩⟩
    · exact FnAboveOf_l0 t a r hg.1 hg.2 hr hl _ 1 rfl (by omega) (by omega)
    · subst hr; simp at h1
theorem FnAboveOf : laws_FnAboveOf.Pure := by
  intro l h0 h1 h2
  apply Evs.done
  unfold laws_FnAboveOf.f
  refine Evs.ite (fun _ => Evs.ret rfl) (fun _ => ?_)
  refine Evs.bind (draw_AboveOf l (bytes_of_wf h2)) (fun t ht => Evs.bind (AboveOf_ev _ _ ht.small) (fun a ha => Evs.bind (sAboveOf_ev _ _ ht.small) (fun b hb => Evs.bind (equalInts_ev a b (by have := ha.1; omega)) (fun c hc => ?_))))
  refine Evs.ite (fun h => ?_) (fun h => ?_)
  · refine FnAboveOf_j0 _ _ _ _ ht ha (fun q => ?_)
    simp at q
    have := List.length_pos_iff.2 q
    omega
  · exact FnAboveOf_j0 _ _ _ _ ht ha (by simp)
end Go.Proofs.Ytihglabpnladoaa.Pure
