/- The plain proof: what the printed functions tell. Conditions: none beyond the statement's own. -/
import Derived.Test.YtlibkefnlfcakaaCFnAddClassCatchPureAddClass
import Derived.Test.YtlibkefnlfcakaaCFnAddClassCatchPureCatches
import Derived.Test.YtlibkefnlfcakaaCFnAddClassCatchPTx15
namespace Go.Proofs.Ytlibkefnlfcakaa.Pure
open Go.RowKit Go.Proofs.Ytlibkefnlfcakaa.PT Go.Proofs.YtlibkefnlfcakaaW.PrintWords Go.Proofs.YtlibkefnlfcakaaW.PrintLast
set_option linter.unusedVariables false
set_option linter.unusedSimpArgs false
theorem caught_mem {t : List S62} {a : Int} {r : List Int} (h : CaughtR t [a] r) (hv : ValidT t) (ha : HasC t a) (x : Int) (hx : HasC t x) : x ∈ r ↔ Bel t x a := by
  rcases h with ⟨h1, h2⟩ | ⟨h1, h2⟩
  · rw [h2, mem_sel]
    have e : Caught t [a] x ↔ Bel t x a := ⟨fun ⟨b, hb, q⟩ => by rw [List.mem_singleton] at hb; subst hb; exact q, fun q => ⟨a, by simp, q⟩⟩
    rw [e]
    exact ⟨fun q => q.2.2, fun q => ⟨hx.1, by have := hx.2; omega, q⟩⟩
  · exact absurd ⟨hv, by simp, fun b hb => by rw [List.mem_singleton] at hb; subst hb; exact ha⟩ h1
theorem FnAddClassCatch_l0 (t : List S62) (n : ByteArray) (p : Int) (ht : OkT t) (hn : (n.size : Int) ≤ 100) (hv : ValidT t) (hw : ValidT (t ++ [(⟨n, p⟩ : S62)])) (m : Nat) : ∀ (i : Int), ((t.length : Int) - i).toNat = m → 0 ≤ i → i ≤ t.length →
    Evs (fun k => laws_FnAddClassCatch.l0 k p i t (t ++ [(⟨n, p⟩ : S62)])) (fun y => y = true) := by
  have hlt := ht.1
  have sm : SmallT (t ++ [(⟨n, p⟩ : S62)]) := ht.small.snoc (by omega) ⟨n, p⟩ (by simp only; omega)
  induction m with
  | zero =>
    intro i hm h0 h1
    exact Evs.step (fun k => by rw [laws_FnAddClassCatch.l0]) (Evs.no (by omega) (Evs.ret rfl))
  | succ m ih =>
    intro i hm h0 h1
    have hi : HasC t i := ⟨h0, by omega⟩
    refine Evs.step (fun k => by rw [laws_FnAddClassCatch.l0]) (Evs.yes hi.2 (Evs.bind (P := fun y => [i] = y) (Evs.ret rfl) (fun y hy => ?_)))
    subst hy
    refine Evs.bind (CaughtBy_ev _ _ sm) (fun a ha => Evs.bind (isIn_ev a _ (by have := ha.len; omega)) (fun b hb => ?_))
    refine Evs.bind (CaughtBy_ev _ _ ht.small) (fun c hc => Evs.bind (isIn_ev c _ (by have := hc.len; omega)) (fun d hd => ?_))
    have e : b = d := by
      rw [Bool.eq_iff_iff, hb, hd, caught_mem ha hw (hi.old _) _ (hasNew t _), caught_mem hc hv hi _ (parent_has hv hw)]
      exact new_bel hv hw hi
    rw [w64 (x := i + 1) (by omega) (by omega)]
    exact Evs.no (by rw [e]; simp) (ih (i + 1) (by omega) (by omega) (by omega))
theorem FnAddClassCatch_j0 (t : List S62) (n : ByteArray) (p : Int) (r s : List S62 × Bool) (x : Bool) (ht : OkT t) (hn : (n.size : Int) ≤ 100) (hr : AddR t n p r) (hs : AddR t n p s) (hx : x = false → r.2 = true) :
    Evs (fun k => laws_FnAddClassCatch.j0 k p r.2 s.2 x t r.1 s.1) (fun y => y = true) := by
  have e := hr.uniq hs
  subst e
  have hl := hr.len
  refine Evs.step (fun k => by rw [laws_FnAddClassCatch.j0]) (Evs.ite (fun h => ?_) (fun h => ?_))
  · exact Evs.bind (equalTree_ev r.1 r.1 (by omega)) (fun c hc => Evs.yes (hc.2 rfl) (Evs.ret (by simp)))
  · have h0 := hx (by simpa using h)
    rcases hr with ⟨⟨hv, hw⟩, hr⟩ | ⟨_, hr⟩
    case inr => rw [hr] at h0; simp at h0
    have e1 : r.1 = t ++ [(⟨n, p⟩ : S62)] := by rw [hr]
    rw [e1]
    exact FnAddClassCatch_l0 t n p ht hn hv hw _ 0 rfl (by omega) (by omega)
theorem FnAddClassCatch : laws_FnAddClassCatch.Pure := by
  intro l h0 h1 h2
  apply Evs.done
  unfold laws_FnAddClassCatch.f
  refine Evs.ite (fun _ => Evs.ret rfl) (fun _ => ?_)
  refine Evs.bind (draw_AddClass l (bytes_of_wf h2)) (fun d ⟨d1, d2⟩ => ?_)
  have hd := d1.1
  refine Evs.bind (AddClass_ev _ _ _ d1.small (by omega) (by omega)) (fun a ha => Evs.bind (sAddClass_ev _ _ _ d1.small (by omega) (by omega)) (fun b hb => ?_))
  have hl := ha.len
  refine Evs.bind (equalTree_ev _ _ (by omega)) (fun c hc => Evs.ite (fun h => Evs.ite (fun h' => ?_) (fun h' => ?_)) (fun h => ?_))
  · exact FnAddClassCatch_j0 _ _ _ a b _ d1 d2 ha hb (by simp)
  · exact FnAddClassCatch_j0 _ _ _ a b _ d1 d2 ha hb (fun q => by simpa using q)
  · exact FnAddClassCatch_j0 _ _ _ a b _ d1 d2 ha hb (by simp)
end Go.Proofs.Ytlibkefnlfcakaa.Pure
