/- The plain proof: what the printed functions tell. Conditions: none beyond the statement's own. -/
import Derived.Test.YtcbbflemaefeeaaCFnValidGroupPureGroupDraw
import Derived.Test.YtcbbflemaefeeaaCFnValidGroupPureKids
import Derived.Test.YtcbbflemaefeeaaCFnValidGroupPTx13
import Derived.Test.YtcbbflemaefeeaaCFnValidGroupPTx15
namespace Go.Proofs.Ytcbbflemaefeeaa.Pure
open Go.RowKit Go.Proofs.Ytcbbflemaefeeaa.PT Go.Proofs.YtcbbflemaefeeaaW.PrintWords Go.Proofs.YtcbbflemaefeeaaW.PrintLast
set_option linter.unusedVariables false
set_option linter.unusedSimpArgs false
theorem draw_ValidGroup (l : List Int) (h : Bytes l) : Evs (fun k => spec_DrawValidGroup.f k l) (fun r => OkT r.1 ∧ r.2.length ≤ 40) := by
  unfold spec_DrawValidGroup.f
  obtain ⟨r, h1, h2, h3⟩ := newReader_ev l h
  refine Evs.bind (Evs.const (P := fun x => x = r) h1 rfl) (fun _ e => ?_)
  subst e
  exact Evs.bind (someGroup_ev _ _ h2 (by omega) (by omega)) (fun t ⟨t1, t2⟩ => Evs.ret ⟨t1, t2⟩)
theorem rd_L8_mem {ks : List (List S46)} {i : Int} (h0 : 0 ≤ i) (h : i < (ks.length : Int)) : rd_L8 ks i ∈ ks := by
  unfold rd_L8; rw [getD_nat _ _ _ (by omega)]; exact List.getElem_mem _
theorem FnValidGroup_l0 (t : List S70) (g : List S46) (ks : List (List S46)) (ht : OkT t) (h : GroupOk t g) (hk : KidsFrom g 1 ks) (hall : ∀ x ∈ ks, GroupOk t x) (hkl : ks.length ≤ 16) (m : Nat) : ∀ (i : Int), ((ks.length : Int) - i).toNat = m → 0 ≤ i → i ≤ ks.length →
    Evs (fun k => laws_FnValidGroup.l0 k g ks i t) (fun r => r = true) := by
  have hl := h.2.1
  induction m with
  | zero =>
    intro i hm h0 h1
    refine Evs.step (fun k => by rw [laws_FnValidGroup.l0]) (Evs.no (by omega) (Evs.bind (LeavesOf_ev t g ht.small (by omega)) (fun r hr => ?_)))
    rcases hr with ⟨_, hr⟩ | ⟨q, _⟩
    case inr => exact absurd h q
    have := h.leaf
    refine Evs.yes (by rw [hr]; omega) (Evs.yes (by omega) (Evs.ret ?_))
    rw [beq_iff_eq]
    cases ks with
    | nil =>
      simp only [KidsFrom] at hk
      have hf : ¬ (rd_T46 g 0).f1 = true := fun q => by have := ((h.2.2 0 (by omega) (by omega)).2.2.1 q).2.1; omega
      have hf : (rd_T46 g 0).f1 = false := by simpa using hf
      rw [hf]
      simp
    | cons x xs =>
      obtain ⟨e, hi, _⟩ := hk
      rw [(h.one hi.2).1]
      simp
  | succ m ih =>
    intro i hm h0 h1
    have hi : i < (ks.length : Int) := by omega
    have hv := hall _ (rd_L8_mem h0 hi)
    refine Evs.step (fun k => by rw [laws_FnValidGroup.l0]) (Evs.yes hi (Evs.yes h0 (Evs.bind (ValidGroup_ev t _ ht.small (by have := hv.2.1; omega)) (fun a ha => Evs.yes (ha.2 hv) ?_))))
    rw [w64 (x := i + 1) (by omega) (by omega)]
    exact ih (i + 1) (by omega) (by omega) (by omega)
theorem FnValidGroup_j0 (t : List S70) (g : List S46) (a x : Bool) (ht : OkT t) (hg : g.length ≤ 40) (ha : a = true ↔ GroupOk t g) (hx : x = false → a = true) :
    Evs (fun k => laws_FnValidGroup.j0 k g a x t) (fun r => r = true) := by
  refine Evs.step (fun k => by rw [laws_FnValidGroup.j0]) (Evs.ite (fun h => ?_) (fun h => ?_))
  · refine Evs.bind (sValidGroup_ev t g ht.small (by omega)) (fun b hb => Evs.ret ?_)
    rw [beq_iff_eq, Bool.eq_iff_iff, ha, hb]
  · have hv := ha.1 (hx (by simpa using h))
    refine Evs.bind (KidsOf_ev t g ht.small hv) (fun ks hk => ?_)
    obtain ⟨k1, k2⟩ := KidsFrom.all hv (by omega) (fun q => (hv.one q).2) hk
    exact FnValidGroup_l0 t g ks ht hv hk k1 (by have := hv.2.1; omega) _ 0 rfl (by omega) (by omega)
theorem FnValidGroup : laws_FnValidGroup.Pure := by
  intro l h0 h1 h2
  apply Evs.done
  unfold laws_FnValidGroup.f
  refine Evs.ite (fun _ => Evs.ret rfl) (fun _ => ?_)
  refine Evs.bind (draw_ValidGroup l (bytes_of_wf h2)) (fun d ⟨d1, d2⟩ => Evs.bind (ValidGroup_ev _ _ d1.small (by omega)) (fun a ha => Evs.bind (sValidGroup_ev _ _ d1.small (by omega)) (fun b hb => ?_)))
  exact Evs.ite (fun h => FnValidGroup_j0 _ _ _ _ d1 d2 ha (by simp)) (fun h => FnValidGroup_j0 _ _ _ _ d1 d2 ha (fun q => by simpa using q))
end Go.Proofs.Ytcbbflemaefeeaa.Pure
