/- The law FnValidTree of the printed functions: both say when a tree is valid, and a valid tree's part before its last class is valid. -/
import Derived.Test.YtihglabpnladoaaPureTree
import Derived.Test.YtihglabpnladoaaPTx3
import Derived.Test.YtihglabpnladoaaPTx6
namespace Go.Proofs.Ytihglabpnladoaa.Pure
open Go.RowKit Go.Proofs.Ytihglabpnladoaa.PT Go.Proofs.YtihglabpnladoaaW.PrintWords Go.Proofs.YtihglabpnladoaaW.PrintLast
set_option linter.unusedVariables false

theorem draw_ValidTree (l : List Int) (h : Bytes l) : Evs (fun k => spec_DrawValidTree.f k l) OkT := by
  unfold spec_DrawValidTree.f
  obtain ⟨r, h1, h2, h3⟩ := newReader_ev l h
  refine Evs.bind (Evs.const (P := fun x => x = r) h1 rfl) (fun _ e => ?_)
  subst e
  exact Evs.bind (someTree_ev _ _ h2 (by omega) (by omega)) (fun t ⟨t1, _⟩ => Evs.ret t1)

theorem validTree_j0 (t : List S34) (ht : OkT t) (a x : Bool) (ha : a = true ↔ ValidT t) (hx : x = false → a = true) :
    Evs (fun k => laws_FnValidTree.j0 k a x t) (fun r => r = true) := by
  refine Evs.step (fun k => by rw [laws_FnValidTree.j0]) (Evs.ite (fun h => ?_) (fun h => Evs.ite (fun h' => Evs.ret rfl) (fun h' => ?_)))
  · refine Evs.bind (sValidTree_ev t ht.small) (fun b hb => Evs.ret ?_)
    have : a = b := by
      cases a <;> cases b <;> simp_all
    simp [this]
  · have hv := ha.1 (hx (by simpa using h))
    have hl := hv.1
    rw [w64 (x := (t.length : Int) - 1) (by omega) (by omega)]
    refine Evs.yes (by omega) (Evs.yes (by omega) (Evs.bind (ValidTree_ev _ (ht.small.take _)) (fun b hb => Evs.ret ?_)))
    exact hb.2 (hv.take (by omega) (by omega))

theorem FnValidTree : laws_FnValidTree.Pure := by
  intro l h0 h1 h2
  apply Evs.done
  unfold laws_FnValidTree.f
  refine Evs.ite (fun _ => Evs.ret rfl) (fun _ => ?_)
  refine Evs.bind (draw_ValidTree l (bytes_of_wf h2)) (fun t ht => Evs.bind (ValidTree_ev t ht.small) (fun a ha => Evs.bind (sValidTree_ev t ht.small) (fun b hb => ?_)))
  refine Evs.ite (fun h => ?_) (fun h => ?_)
  · exact validTree_j0 t ht a true ha (by simp)
  · exact validTree_j0 t ht a (!a) ha (by simp)

end Go.Proofs.Ytihglabpnladoaa.Pure
