/- The plain proof: what the printed functions tell. Conditions: none beyond the statement's own. -/
import Derived.Test.YtoahlfggbeijpaaCFnValidTracePureTrace
import Derived.Test.YtoahlfggbeijpaaCFnValidTracePTx5
namespace Go.Proofs.Ytoahlfggbeijpaa.Pure
open Go.RowKit Go.Proofs.Ytoahlfggbeijpaa.PT Go.Proofs.YtoahlfggbeijpaaW.PrintWords Go.Proofs.YtoahlfggbeijpaaW.PrintLast
set_option linter.unusedVariables false
theorem draw_ValidTrace (l : List Int) (h : Bytes l) : Evs (fun k => spec_DrawValidTrace.f k l) OkTr := by
  unfold spec_DrawValidTrace.f
  obtain ⟨r, h1, h2, h3⟩ := newReader_ev l h
  refine Evs.bind (Evs.const (P := fun x => x = r) h1 rfl) (fun _ e => ?_)
  subst e
  exact Evs.bind (someTrace_ev _ _ h2 (by omega) (by omega)) (fun t ⟨t1, _⟩ => Evs.ret t1)
theorem FnValidTrace_j0 (t : List S48) (ht : OkTr t) (a x : Bool) (ha : a = true ↔ ValidTr t) (hx : x = false → a = true) :
    Evs (fun k => laws_FnValidTrace.j0 k t a x) (fun r => r = true) := by
  have sm := ht.small
  have hl := ht.1
  refine Evs.step (fun k => by rw [laws_FnValidTrace.j0]) (Evs.ite (fun h => ?_) (fun h => Evs.ite (fun h' => Evs.ret rfl) (fun h' => Evs.yes (by omega) ?_)))
  · refine Evs.bind (sValidTrace_ev t sm) (fun b hb => Evs.ret ?_)
    have : a = b := by rw [Bool.eq_iff_iff, ha, hb]
    simp [this]
  · have hv := ha.1 (hx (by simpa using h))
    rw [w64 (x := (t.length : Int) - 1) (by omega) (by omega)]
    refine Evs.bind (ValidTrace_ev _ (sm.drop _)) (fun b hb => Evs.yes (hb.2 (hv.drop _)) (Evs.yes (by omega) (Evs.yes (by omega) ?_)))
    exact Evs.bind (ValidTrace_ev _ (sm.take _)) (fun b hb => Evs.ret (hb.2 (hv.take _)))
theorem FnValidTrace : laws_FnValidTrace.Pure := by
  intro l h0 h1 h2
  apply Evs.done
  unfold laws_FnValidTrace.f
  refine Evs.ite (fun _ => Evs.ret rfl) (fun _ => ?_)
  refine Evs.bind (draw_ValidTrace l (bytes_of_wf h2)) (fun t ht => Evs.bind (ValidTrace_ev t ht.small) (fun a ha => Evs.bind (sValidTrace_ev t ht.small) (fun b hb => ?_)))
  exact Evs.ite (fun h => FnValidTrace_j0 t ht a true ha (by simp)) (fun h => FnValidTrace_j0 t ht a (!a) ha (by simp))
end Go.Proofs.Ytoahlfggbeijpaa.Pure
