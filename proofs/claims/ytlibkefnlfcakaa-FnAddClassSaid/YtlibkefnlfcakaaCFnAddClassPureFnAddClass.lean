/- The plain proof: what the printed functions tell. Conditions: none beyond the statement's own. -/
import Derived.Test.YtlibkefnlfcakaaCFnAddClassPureAddClass
import Derived.Test.YtlibkefnlfcakaaCFnAddClassPTx9
import Derived.Test.YtlibkefnlfcakaaCFnAddClassPTx10
namespace Go.Proofs.Ytlibkefnlfcakaa.Pure
open Go.RowKit Go.Proofs.Ytlibkefnlfcakaa.PT Go.Proofs.YtlibkefnlfcakaaW.PrintWords Go.Proofs.YtlibkefnlfcakaaW.PrintLast
set_option linter.unusedVariables false
set_option linter.unusedSimpArgs false
theorem one_of {l : List Int} {N : Int} (hs : l.Pairwise (· < ·)) (h : ∀ x, x ∈ l ↔ x = N) : l.length = 1 := by
  cases l with
  | nil => have := (h N).2 rfl; simp at this
  | cons x xs =>
    cases xs with
    | nil => rfl
    | cons y ys =>
      have e1 := (h x).1 (by simp)
      have e2 := (h y).1 (by simp)
      have := (List.pairwise_cons.1 hs).1 y (by simp)
      omega
theorem belowNew {t : List S62} {n : ByteArray} {p : Int} {r : List Int} (hv : ValidT t) (hw : ValidT (t ++ [(⟨n, p⟩ : S62)])) (h : Below (t ++ [(⟨n, p⟩ : S62)]) (t.length : Int) r) : r.length = 1 := by
  have hm := fun x => h.mem hw (hasNew t _) (x := x)
  refine one_of (N := (t.length : Int)) ?_ (fun x => ?_)
  · rcases h with ⟨_, h2⟩ | ⟨h1, _⟩
    · rw [h2]; exact sel_sorted _ _ _
    · exact absurd ⟨hw, hasNew t _⟩ h1
  · rw [hm]
    constructor
    · intro q
      have q1 := q.le hw
      have q2 := q.hasl.2
      simp at q2
      omega
    · intro q
      subst q
      exact Bel.refl hw (hasNew t _)
def AboveA (t : List S62) (a : Int) (r : List Int) : Prop := r.length ≤ 8 ∧ ((ValidT t ∧ HasC t a) → IsWay t a r)
theorem AboveOf_eva (t : List S62) (a : Int) (ht : SmallT t) : Evs (fun k => impl_AboveOf.f k t a) (AboveA t a) := by
  unfold impl_AboveOf.f
  refine Evs.bind (classesIn_ev t [a] ht) (fun v hv => Evs.ite (fun h => ?_) (fun h => Evs.ret ⟨by simp, fun q => absurd (hv.2 ⟨q.1, by simpa using q.2⟩) h⟩))
  have hg : ValidT t ∧ HasC t a := ⟨(hv.1 h).1, (hv.1 h).2 a (by simp)⟩
  exact Evs.bind (iabove_ev t a hg.1 hg.2) (fun r hr => Evs.ret ⟨hr.2, fun _ => hr.1⟩)
theorem FnAddClass_j0 (t : List S62) (n : ByteArray) (p : Int) (r s : List S62 × Bool) (x : Bool) (ht : OkT t) (hn : (n.size : Int) ≤ 100) (hr : AddR t n p r) (hs : AddR t n p s) (hx : x = false → r.2 = true) :
    Evs (fun k => laws_FnAddClass.j0 k n p r.2 s.2 x t r.1 s.1) (fun y => y = true) := by
  have e := hr.uniq hs
  subst e
  have hl := hr.len
  refine Evs.step (fun k => by rw [laws_FnAddClass.j0]) (Evs.ite (fun h => ?_) (fun h => ?_))
  · exact Evs.bind (equalTree_ev r.1 r.1 (by omega)) (fun c hc => Evs.yes (hc.2 rfl) (Evs.ret (by simp)))
  · have h0 := hx (by simpa using h)
    rcases hr with ⟨⟨hv, hw⟩, hr⟩ | ⟨_, hr⟩
    case inr => rw [hr] at h0; simp at h0
    have e1 : r.1 = t ++ [(⟨n, p⟩ : S62)] := by rw [hr]
    rw [e1]
    have hlt := ht.1
    have sm : SmallT (t ++ [(⟨n, p⟩ : S62)]) := ht.small.snoc (by omega) ⟨n, p⟩ (by simp only; omega)
    have hp := parent_has hv hw
    refine Evs.bind (IsA_ev _ _ _ sm) (fun a ha => Evs.yes (ha.2 ⟨hw, (new_bel hv hw hp).2 (Bel.refl hv hp)⟩) ?_)
    refine Evs.bind (BelowOf_ev _ _ sm) (fun b hb => Evs.yes (by have := belowNew hv hw hb; omega) ?_)
    refine Evs.bind (P := fun r => r = (t.length : Int)) ?_ (fun c hc => Evs.yes hc ?_)
    · unfold impl_ClassNamed.f
      refine Evs.bind (ValidTree_ev _ sm) (fun a ha => Evs.yes (ha.2 hw) (Evs.bind (named_ev _ n) (fun b hb => Evs.ret ?_)))
      refine hb.uniq (.inr ⟨by omega, by simp; omega, by rw [rdSC_new], fun j j0 j1 => ?_⟩)
      have := (hw.2 (t.length : Int) (by omega) (by simp; omega)).2.1 j j0 j1
      rwa [rdSC_new] at this
    · refine Evs.bind (AboveOf_eva _ _ sm) (fun u hu => Evs.bind (AboveOf_eva _ _ ht.small) (fun v hv' => Evs.ret ?_))
      have h1 := hu.2 ⟨hw, hasNew t _⟩
      have h2 := hv'.2 ⟨hv, hp⟩
      have h3 := h1.uniq (new_way hv hw h2)
      have h4 := hv'.1
      rw [w64 (x := (v.length : Int) + 1) (by omega) (by omega), h3]
      simp
theorem FnAddClass : laws_FnAddClass.Pure := by
  intro l h0 h1 h2
  apply Evs.done
  unfold laws_FnAddClass.f
  refine Evs.ite (fun _ => Evs.ret rfl) (fun _ => ?_)
  refine Evs.bind (draw_AddClass l (bytes_of_wf h2)) (fun d ⟨d1, d2⟩ => ?_)
  have hd := d1.1
  refine Evs.bind (AddClass_ev _ _ _ d1.small (by omega) (by omega)) (fun a ha => Evs.bind (sAddClass_ev _ _ _ d1.small (by omega) (by omega)) (fun b hb => ?_))
  have hl := ha.len
  refine Evs.bind (equalTree_ev _ _ (by omega)) (fun c hc => Evs.ite (fun h => Evs.ite (fun h' => ?_) (fun h' => ?_)) (fun h => ?_))
  · exact FnAddClass_j0 _ _ _ a b _ d1 d2 ha hb (by simp)
  · exact FnAddClass_j0 _ _ _ a b _ d1 d2 ha hb (fun q => by simpa using q)
  · exact FnAddClass_j0 _ _ _ a b _ d1 d2 ha hb (by simp)
end Go.Proofs.Ytlibkefnlfcakaa.Pure
