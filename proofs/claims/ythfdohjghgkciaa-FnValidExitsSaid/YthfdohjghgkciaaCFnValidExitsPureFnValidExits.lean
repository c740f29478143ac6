/- The plain proof: what the printed functions tell. Conditions: none beyond the statement's own. -/
import Derived.Test.YthfdohjghgkciaaCFnValidExitsPureExits
import Derived.Test.YthfdohjghgkciaaCFnValidExitsPTx4
import Derived.Test.YthfdohjghgkciaaCFnValidExitsPTx9
namespace Go.Proofs.Ythfdohjghgkciaa.Pure
open Go.RowKit Go.Proofs.Ythfdohjghgkciaa.PT Go.Proofs.YthfdohjghgkciaaW.PrintWords Go.Proofs.YthfdohjghgkciaaW.PrintLast
set_option linter.unusedVariables false
set_option linter.unusedSimpArgs false
theorem draw_ValidExits (l : List Int) (h : Bytes l) : Evs (fun k => spec_DrawValidExits.f k l) (fun r => OkT r.1 ∧ r.2.length ≤ 8) := by
  unfold spec_DrawValidExits.f
  obtain ⟨r, h1, h2, h3⟩ := newReader_ev l h
  refine Evs.bind (Evs.const (P := fun x => x = r) h1 rfl) (fun _ e => ?_)
  subst e
  exact Evs.bind (someExits_ev _ _ h2 (by omega) (by omega)) (fun t ⟨t1, t2⟩ => Evs.ret ⟨t1, t2⟩)
theorem FnValidExits_j0 (t : List S70) (l : List S43) (a x : Bool) (ht : OkT t) (hl : l.length ≤ 8) (ha : a = true ↔ ExitsOk t l) (hx : x = false → a = true) :
    Evs (fun k => laws_FnValidExits.j0 k l a x t) (fun r => r = true) := by
  refine Evs.step (fun k => by rw [laws_FnValidExits.j0]) (Evs.ite (fun h => ?_) (fun h => ?_))
  · refine Evs.bind (sValidExits_ev t l ht.small (by omega)) (fun b hb => Evs.ret ?_)
    rw [beq_iff_eq, Bool.eq_iff_iff, ha, hb]
  · have hv := ha.1 (hx (by simpa using h))
    refine Evs.ite (fun _ => Evs.ret rfl) (fun hz => ?_)
    rw [w64 (x := (l.length : Int) - 1) (by omega) (by omega)]
    refine Evs.yes (by omega) (Evs.yes (by omega) (Evs.bind (ValidExits_ev t _ ht.small) (fun b hb => Evs.yes (hb.2 (hv.take _)) (Evs.yes (by omega) ?_))))
    exact Evs.bind (ValidExits_ev t _ ht.small) (fun c hc => Evs.ret (hc.2 (hv.drop _)))
theorem FnValidExits : laws_FnValidExits.Pure := by
  intro l h0 h1 h2
  apply Evs.done
  unfold laws_FnValidExits.f
  refine Evs.ite (fun _ => Evs.ret rfl) (fun _ => ?_)
  refine Evs.bind (draw_ValidExits l (bytes_of_wf h2)) (fun d ⟨d1, d2⟩ => Evs.bind (ValidExits_ev _ _ d1.small) (fun a ha => Evs.bind (sValidExits_ev _ _ d1.small (by omega)) (fun b hb => ?_)))
  refine Evs.ite (fun h => FnValidExits_j0 _ _ _ _ d1 d2 ha (by simp)) (fun h => FnValidExits_j0 _ _ _ _ d1 d2 ha (fun q => by simpa using q))
end Go.Proofs.Ythfdohjghgkciaa.Pure
