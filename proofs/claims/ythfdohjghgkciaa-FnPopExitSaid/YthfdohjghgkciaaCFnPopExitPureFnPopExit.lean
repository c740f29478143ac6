/- The plain proof: what the printed functions tell. Conditions: none beyond the statement's own. -/
import Derived.Test.YthfdohjghgkciaaCFnPopExitPureExits
import Derived.Test.YthfdohjghgkciaaCFnPopExitPTx12
import Derived.Test.YthfdohjghgkciaaCFnPopExitPTx13
import Derived.Test.YthfdohjghgkciaaCFnPopExitPTx14
namespace Go.Proofs.Ythfdohjghgkciaa.Pure
open Go.RowKit Go.Proofs.Ythfdohjghgkciaa.PT Go.Proofs.YthfdohjghgkciaaW.PrintWords Go.Proofs.YthfdohjghgkciaaW.PrintLast
set_option linter.unusedVariables false
set_option linter.unusedSimpArgs false
theorem draw_PopExit (l : List Int) (h : Bytes l) : Evs (fun k => spec_DrawPopExit.f k l) (fun r => OkT r.1 ∧ r.2.length ≤ 8) := by
  unfold spec_DrawPopExit.f
  obtain ⟨r, h1, h2, h3⟩ := newReader_ev l h
  refine Evs.bind (Evs.const (P := fun x => x = r) h1 rfl) (fun _ e => ?_)
  subst e
  exact Evs.bind (someExits_ev _ _ h2 (by omega) (by omega)) (fun t ⟨t1, t2⟩ => Evs.ret ⟨t1, t2⟩)
theorem esame_iff (a b : S43) : ((a.f0 == b.f0) && ((a.f1 == b.f1) && (a.f2 == b.f2))) = true ↔ a = b := by
  rw [Bool.and_eq_true, Bool.and_eq_true, beq_iff_eq, beq_iff_eq, beq_iff_eq]
  refine ⟨fun ⟨h, k, m⟩ => ?_, fun h => by subst h; exact ⟨rfl, rfl, rfl⟩⟩
  cases a
  cases b
  simp only at h k m
  rw [h, k, m]
theorem ediff_iff (a b : S43) : (!(a.f0 == b.f0) || (!(a.f1 == b.f1) || !(a.f2 == b.f2))) = true ↔ a ≠ b := by
  rw [← Bool.not_and, ← Bool.not_and, Bool.not_eq_true', ← Bool.not_eq_true, esame_iff]
theorem ext_rdSE {x y : List S43} (hl : x.length = y.length) (h : ∀ j : Int, 0 ≤ j → j < x.length → rd_T43 x j = rd_T43 y j) : x = y := by
  refine List.ext_getElem hl fun i h1 h2 => ?_
  have := h i (by omega) (by omega)
  unfold rd_T43 at this
  rwa [Int.toNat_natCast, getD_nat _ _ _ h1, getD_nat _ _ _ h2] at this
theorem equalExits_l0 (x y : List S43) (hl : x.length = y.length) (hx : (x.length : Int) ≤ 1099511627776) : ∀ (m : Nat) (i : Int), ((x.length : Int) - i).toNat = m → 0 ≤ i → i ≤ x.length →
    Evs (fun k => laws_equalExits.l0 k x y i) (fun r => r = true ↔ ∀ j : Int, i ≤ j → j < x.length → rd_T43 x j = rd_T43 y j)
  | 0, i, hm, h0, h1 => by
    exact Evs.step (fun k => by rw [laws_equalExits.l0]) (Evs.no (by omega) (Evs.ret ⟨fun _ j j0 j1 => by omega, fun _ => rfl⟩))
  | m + 1, i, hm, h0, h1 => by
    refine Evs.step (fun k => by rw [laws_equalExits.l0]) (Evs.yes (by omega) (Evs.yes h0 (Evs.yes (by omega) (Evs.ite (fun h => Evs.ret ⟨fun q => by simp at q, fun q => absurd (q i (by omega) (by omega)) ((ediff_iff _ _).1 h)⟩) (fun h => ?_)))))
    have h : rd_T43 x i = rd_T43 y i := Classical.byContradiction fun q => h ((ediff_iff _ _).2 q)
    rw [w64 (x := i + 1) (by omega) (by omega)]
    refine (equalExits_l0 x y hl hx m (i + 1) (by omega) (by omega) (by omega)).imp fun r hr => ?_
    rw [hr]
    exact ⟨fun q => from_here (P := fun j => rd_T43 x j = rd_T43 y j) h q, fun q j j0 j1 => q j (by omega) j1⟩
theorem equalExits_ev (x y : List S43) (hx : (x.length : Int) ≤ 1099511627776) : Evs (fun k => laws_equalExits.f k x y) (fun r => r = true ↔ x = y) := by
  unfold laws_equalExits.f
  refine Evs.ite (fun h => ?_) (fun h => Evs.ret ⟨fun q => by simp at q, fun q => absurd (by rw [q]) h⟩)
  have hl : x.length = y.length := by omega
  refine (equalExits_l0 x y hl hx _ 0 rfl (by omega) (by omega)).imp fun r hr => ?_
  rw [hr]
  exact ⟨fun q => ext_rdSE hl q, fun q j _ _ => by rw [q]⟩
def PopR (t : List S70) (l : List S43) (r : List S43 × Int × Int × Int × Bool) : Prop :=
  ((ExitsOk t l ∧ 0 < l.length) ∧ r = (l.take (l.length - 1), (rd_T43 l (l.length - 1)).f0, (rd_T43 l (l.length - 1)).f1, (rd_T43 l (l.length - 1)).f2, true)) ∨ (¬ (ExitsOk t l ∧ 0 < l.length) ∧ r = ([], 0, 0, 0, false))
theorem PopR.uniq {t : List S70} {l : List S43} {r s : List S43 × Int × Int × Int × Bool} (h : PopR t l r) (k : PopR t l s) : r = s := by
  rcases h with ⟨h1, h2⟩ | ⟨h1, h2⟩ <;> rcases k with ⟨k1, k2⟩ | ⟨k1, k2⟩
  · rw [h2, k2]
  · exact absurd h1 k1
  · exact absurd k1 h1
  · rw [h2, k2]
theorem PopR.len {t : List S70} {l : List S43} {r : List S43 × Int × Int × Int × Bool} (hl : l.length ≤ 8) (h : PopR t l r) : r.1.length ≤ 8 := by
  rcases h with ⟨h1, h2⟩ | ⟨h1, h2⟩ <;> rw [h2] <;> simp
  omega
theorem clone_ev (l : List S43) (hl : l.length ≤ 100) : Evs (fun _ => impl_Exit_33.f l) (fun r => r = l) := by
  unfold impl_Exit_33.f
  exact Evs.yes (by omega) (Evs.ret rfl)
theorem clip_ev (l : List S43) : Evs (fun _ => impl_Exit_32.f l) (fun r => r = l) := by
  unfold impl_Exit_32.f
  exact Evs.ret rfl
theorem PopExit_j0 (t : List S70) (l : List S43) (b : Bool) (hl : l.length ≤ 8) (hb : b = false ↔ (ExitsOk t l ∧ 0 < l.length)) : Evs (fun k => impl_PopExit.j0 k l b) (PopR t l) := by
  refine Evs.step (fun k => by rw [impl_PopExit.j0]) (Evs.ite (fun h => Evs.ret (.inr ⟨fun q => by have := hb.2 q; rw [this] at h; simp at h, rfl⟩)) (fun h => ?_))
  have hg := hb.1 (by simpa using h)
  rw [w64 (x := (l.length : Int) - 1) (by omega) (by omega)]
  refine Evs.yes (by omega) (Evs.yes (by omega) (Evs.bind (clone_ev _ (by simp; omega)) (fun a ha => Evs.bind (clip_ev a) (fun c hc => Evs.yes (by omega) (Evs.ret (.inl ⟨hg, ?_⟩))))))
  rw [hc, ha, show ((l.length : Int) - 1).toNat = l.length - 1 by omega]
theorem PopExit_ev (t : List S70) (l : List S43) (ht : SmallT t) (hl : l.length ≤ 8) : Evs (fun k => impl_PopExit.f k t l) (PopR t l) := by
  unfold impl_PopExit.f
  refine Evs.bind (ValidExits_ev t l ht) (fun a ha => Evs.ite (fun h => PopExit_j0 t l _ hl ?_) (fun h => PopExit_j0 t l true hl ⟨fun q => by simp at q, fun q => absurd (ha.2 q.1) h⟩))
  rw [beq_eq_false_iff_ne]
  exact ⟨fun q => ⟨ha.1 h, by omega⟩, fun q => by omega⟩
theorem sPopExit_ev (t : List S70) (l : List S43) (ht : SmallT t) (hl : l.length ≤ 8) : Evs (fun k => spec_PopExit.f k t l) (PopR t l) := by
  unfold spec_PopExit.f
  refine Evs.bind (validExits_ev t l ht (by omega)) (fun a ha => Evs.ite (fun h => ?_) (fun h => Evs.ret (.inr ⟨fun q => h (ha.2 q.1), rfl⟩)))
  refine Evs.ite (fun hz => Evs.ret (.inr ⟨fun q => by omega, rfl⟩)) (fun hz => ?_)
  rw [w64 (x := (l.length : Int) - 1) (by omega) (by omega)]
  refine Evs.yes (by omega) (Evs.yes (by omega) (Evs.bind (P := fun r => r = l.take ((l.length : Int) - 1).toNat) ?_ (fun c hc => Evs.yes (by omega) (Evs.ret (.inl ⟨⟨ha.1 h, by omega⟩, ?_⟩)))))
  · unfold spec_copyExits.f
    refine Evs.bind (P := fun y => ([] : List S43) = y) (Evs.ret rfl) (fun y hy => ?_)
    subst hy
    exact Evs.yes (by simp; omega) (Evs.ret (by simp))
  · rw [hc, show ((l.length : Int) - 1).toNat = l.length - 1 by omega]
theorem take_last (l : List S43) (h : 0 < l.length) : l.take (l.length - 1) ++ [rd_T43 l (l.length - 1)] = l := by
  have e : rd_T43 l (l.length - 1) = l[l.length - 1] := by
    unfold rd_T43
    rw [getD_nat _ _ _ (by omega)]
    congr 1
    omega
  have e2 : l.drop (l.length - 1) = [l[l.length - 1]] := by
    rw [List.drop_eq_getElem_cons (by omega), List.drop_eq_nil_of_le (by omega)]
  rw [e, ← e2, List.take_append_drop]
theorem PushExit_ev (t : List S70) (l : List S43) (x : S43) (ht : SmallT t) (hl : l.length ≤ 8) (h1 : ExitsOk t l) (h2 : ExitsOk t (l ++ [x])) : Evs (fun k => impl_PushExit.f k t l x.f0 x.f1 x.f2) (fun r => r = (l ++ [x], true)) := by
  unfold impl_PushExit.f
  refine Evs.bind (ValidExits_ev t l ht) (fun a ha => Evs.yes (ha.2 h1) (Evs.bind (clone_ev l (by omega)) (fun c hc => Evs.bind (P := fun y => [x] = y) (Evs.ret rfl) (fun y hy => ?_))))
  subst hy hc
  refine Evs.yes (by simp; omega) (Evs.bind (P := fun r => r = (c ++ [x], true)) ?_ (fun r hr => Evs.ret hr))
  unfold impl_exitsMade.f
  exact Evs.bind (ValidExits_ev t _ ht) (fun b hb => Evs.yes (hb.2 h2) (Evs.bind (clip_ev _) (fun d hd => Evs.ret (by rw [hd]))))
theorem FnPopExit_j0 (t : List S70) (l : List S43) (r s : List S43 × Int × Int × Int × Bool) (x : Bool) (ht : OkT t) (hl : l.length ≤ 8) (hr : PopR t l r) (hs : PopR t l s) (hx : x = false → r.2.2.2.2 = true) :
    Evs (fun k => laws_FnPopExit.j0 k l r.1 r.2.2.2.2 s.1 s.2.2.2.2 x t r.2.1 r.2.2.1 r.2.2.2.1 s.2.1 s.2.2.1 s.2.2.2.1) (fun y => y = true) := by
  have e := hr.uniq hs
  subst e
  have hlen := hr.len hl
  refine Evs.step (fun k => by rw [laws_FnPopExit.j0]) (Evs.ite (fun h => ?_) (fun h => ?_))
  · exact Evs.bind (equalExits_ev r.1 r.1 (by omega)) (fun c hc => Evs.yes (hc.2 rfl) (Evs.yes (by simp) (Evs.ret (by simp))))
  · have h0 := hx (by simpa using h)
    rcases hr with ⟨⟨hv, hp⟩, hr⟩ | ⟨_, hr⟩
    case inr => rw [hr] at h0; simp at h0
    rw [hr]
    simp only
    have e := take_last l hp
    refine Evs.bind (PushExit_ev t (l.take (l.length - 1)) (rd_T43 l (l.length - 1)) ht.small (by simp; omega) (hv.take _) (by rw [e]; exact hv)) (fun b hb => ?_)
    subst hb
    refine Evs.yes rfl (Evs.bind (equalExits_ev _ l (by simp; omega)) (fun c hc => Evs.ret (hc.2 e)))
theorem FnPopExit : laws_FnPopExit.Pure := by
  intro l h0 h1 h2
  apply Evs.done
  unfold laws_FnPopExit.f
  refine Evs.ite (fun _ => Evs.ret rfl) (fun _ => ?_)
  refine Evs.bind (draw_PopExit l (bytes_of_wf h2)) (fun d ⟨d1, d2⟩ => Evs.bind (PopExit_ev _ _ d1.small d2) (fun a ha => Evs.bind (sPopExit_ev _ _ d1.small d2) (fun b hb => ?_)))
  have hl := ha.len d2
  refine Evs.bind (equalExits_ev _ _ (by omega)) (fun c hc => Evs.ite (fun h => Evs.ite (fun h' => ?_) (fun h' => Evs.ite (fun h3 => ?_) (fun h3 => ?_))) (fun h => ?_))
  · exact FnPopExit_j0 _ _ a b _ d1 d2 ha hb (by simp)
  · exact FnPopExit_j0 _ _ a b _ d1 d2 ha hb (by simp)
  · exact FnPopExit_j0 _ _ a b _ d1 d2 ha hb (fun q => by simpa using q)
  · exact FnPopExit_j0 _ _ a b _ d1 d2 ha hb (by simp)
end Go.Proofs.Ythfdohjghgkciaa.Pure
