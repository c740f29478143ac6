/- The plain proof: what the printed functions tell. Conditions: none beyond the statement's own. -/
import Derived.Test.YtnoekddnacnopaaCFnIsAPureBelow
import Derived.Test.YtnoekddnacnopaaCFnIsAPTx12
namespace Go.Proofs.Ytnoekddnacnopaa.Pure
open Go.RowKit Go.Proofs.Ytnoekddnacnopaa.PT Go.Proofs.YtnoekddnacnopaaW.PrintWords Go.Proofs.YtnoekddnacnopaaW.PrintLast
set_option linter.unusedVariables false
theorem draw_IsA (l : List Int) (h : Bytes l) : Evs (fun k => spec_DrawIsA.f k l) (fun r => OkT r.1) := by
  unfold spec_DrawIsA.f
  obtain ⟨r, h1, h2, h3⟩ := newReader_ev l h
  refine Evs.bind (Evs.const (P := fun x => x = r) h1 rfl) (fun _ e => ?_)
  subst e
  exact Evs.bind (someTree_ev _ _ h2 (by omega) (by omega)) (fun t ⟨t1, t2, t3⟩ => Evs.bind (aClass_ev _ _ _ h2 t2 (by omega) t1) (fun a ⟨_, a2, a3⟩ => Evs.bind (aClass_ev _ _ _ h2 a2 (by omega) t1) (fun _ _ => Evs.ret t1)))
theorem has_ev (t : List S67) (a : Int) : Evs (fun _ => laws_has.f t a) (fun r => r = true ↔ HasC t a) := by
  unfold laws_has.f HasC
  refine Evs.ite (fun h => Evs.ret ?_) (fun h => Evs.ret ?_)
  · rw [decide_eq_true_iff]; omega
  · simp; omega
theorem aboveOf_ev (t : List S67) (a : Int) (ht : SmallT t) (hv : ValidT t) (ha : HasC t a) : Evs (fun k => impl_AboveOf.f k t a) (fun r => IsWay t a r ∧ r.length ≤ 8) := by
  unfold impl_AboveOf.f
  refine Evs.bind (classesIn_ev t [a] ht) (fun v hv' => Evs.yes (hv'.2 ⟨hv, by simpa using ha⟩) ?_)
  exact Evs.bind (iabove_ev t a hv ha) (fun r hr => Evs.ret hr)
theorem beq_of_iff {a b : Bool} {P Q : Prop} (h : a = true ↔ P) (k : b = true ↔ Q) (e : P ↔ Q) : a = b := by
  rw [Bool.eq_iff_iff, h, k, e]
theorem FnIsA_j0 (t : List S67) (a b : Int) (r x : Bool) (ht : OkT t) (hr : r = true ↔ (ValidT t ∧ Bel t a b)) (hx : x = false → ValidT t ∧ HasC t a ∧ HasC t b) :
    Evs (fun k => laws_FnIsA.j0 k a b r x t) (fun b => b = true) := by
  have sm := ht.small
  refine Evs.step (fun k => by rw [laws_FnIsA.j0]) (Evs.ite (fun h => ?_) (fun h => ?_))
  · refine Evs.bind (sIsA_ev t a b sm) (fun s hs => Evs.ret ?_)
    rw [beq_of_iff hr hs Iff.rfl]
    simp
  · obtain ⟨hv, ha, hb⟩ := hx (by simpa using h)
    refine Evs.bind (IsA_ev t a a sm) (fun c hc => Evs.yes (hc.2 ⟨hv, Bel.refl hv ha⟩) ?_)
    refine Evs.bind (IsA_ev t a 0 sm) (fun c hc => Evs.yes (hc.2 ⟨hv, Bel.root hv ha⟩) ?_)
    refine Evs.bind (BelowOf_ev t b sm) (fun l hl => Evs.bind (isIn_ev l a (by have := hl.len; omega)) (fun c hc => Evs.yes ?_ ?_))
    · rw [beq_of_iff hr hc (by rw [hl.mem hv hb]; exact ⟨fun q => q.2, fun q => ⟨hv, q⟩⟩)]
      simp
    refine Evs.bind (aboveOf_ev t a sm hv ha) (fun w hw => Evs.bind (isIn_ev w b (by have := hw.2; omega)) (fun c hc => Evs.yes ?_ ?_))
    · rw [beq_of_iff hr hc (by rw [Bel.of_way hw.1]; exact ⟨fun q => q.2, fun q => ⟨hv, q⟩⟩)]
      simp
    refine Evs.ite (fun _ => Evs.ret rfl) (fun hne => Evs.ite (fun hy => ?_) (fun _ => Evs.ret rfl))
    refine Evs.bind (IsA_ev t b a sm) (fun c hc => Evs.ret ?_)
    cases c with
    | false => rfl
    | true => exact absurd ((hr.1 hy).2.anti hv (hc.1 rfl).2) hne
theorem FnIsA : laws_FnIsA.Pure := by
  intro l h0 h1 h2
  apply Evs.done
  unfold laws_FnIsA.f
  refine Evs.ite (fun _ => Evs.ret rfl) (fun _ => ?_)
  refine Evs.bind (draw_IsA l (bytes_of_wf h2)) (fun t ht => Evs.bind (IsA_ev _ _ _ ht.small) (fun a ha => Evs.bind (sIsA_ev _ _ _ ht.small) (fun b hb => ?_)))
  refine Evs.ite (fun h => FnIsA_j0 _ _ _ _ _ ht ha (by simp)) (fun h => Evs.bind (ValidTree_ev _ ht.small) (fun v hv => Evs.ite (fun h1 => ?_) (fun h1 => FnIsA_j0 _ _ _ _ _ ht ha (by simp))))
  refine Evs.bind (has_ev _ _) (fun c hc => Evs.ite (fun h2 => ?_) (fun h2 => FnIsA_j0 _ _ _ _ _ ht ha (by simp)))
  exact Evs.bind (has_ev _ _) (fun d hd => FnIsA_j0 _ _ _ _ _ ht ha (fun q => ⟨hv.1 h1, hc.1 h2, hd.1 (by simpa using q)⟩))
end Go.Proofs.Ytnoekddnacnopaa.Pure
