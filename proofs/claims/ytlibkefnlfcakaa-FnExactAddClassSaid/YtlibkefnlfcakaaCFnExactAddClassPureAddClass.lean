/- The plain proof: what the printed functions tell. Conditions: none beyond the statement's own. -/
import Derived.Test.YtlibkefnlfcakaaCFnExactAddClassPureBelow
import Derived.WideShapes
import Derived.Test.YtlibkefnlfcakaaCFnExactAddClassPTx6
import Derived.Test.YtlibkefnlfcakaaCFnExactAddClassPTx8
import Derived.Test.YtlibkefnlfcakaaCFnExactAddClassPTx5
namespace Go.Proofs.Ytlibkefnlfcakaa.Pure
open Go.RowKit Go.Proofs.Ytlibkefnlfcakaa.PT Go.Proofs.YtlibkefnlfcakaaW.PrintWords
set_option linter.unusedVariables false
set_option linter.unusedSimpArgs false
theorem SmallT.snoc {t : List S62} (h : SmallT t) (hl : (t.length : Int) ≤ 1048576) (c : S62) (hc : (c.f0.size : Int) ≤ 1099511627776) : SmallT (t ++ [c]) := by
  refine ⟨by simp; omega, fun x hx => ?_⟩
  rw [List.mem_append, List.mem_singleton] at hx
  rcases hx with hx | rfl
  · exact h.2 x hx
  · exact hc
def AddR (t : List S62) (n : ByteArray) (p : Int) (r : List S62 × Bool) : Prop :=
  ((ValidT t ∧ ValidT (t ++ [(⟨n, p⟩ : S62)])) ∧ r = (t ++ [(⟨n, p⟩ : S62)], true)) ∨ (¬ (ValidT t ∧ ValidT (t ++ [(⟨n, p⟩ : S62)])) ∧ r = ([], false))
theorem AddR.uniq {t : List S62} {n : ByteArray} {p : Int} {r s : List S62 × Bool} (h : AddR t n p r) (k : AddR t n p s) : r = s := by
  rcases h with ⟨h1, h2⟩ | ⟨h1, h2⟩ <;> rcases k with ⟨k1, k2⟩ | ⟨k1, k2⟩
  · rw [h2, k2]
  · exact absurd h1 k1
  · exact absurd k1 h1
  · rw [h2, k2]
theorem AddR.len {t : List S62} {n : ByteArray} {p : Int} {r : List S62 × Bool} (h : AddR t n p r) : (r.1.length : Int) ≤ 8 := by
  rcases h with ⟨h1, h2⟩ | ⟨h1, h2⟩
  · have := h1.2.1
    rw [h2]; exact this.2
  · rw [h2]; simp
theorem AddClass_ev (t : List S62) (n : ByteArray) (p : Int) (ht : SmallT t) (hl : (t.length : Int) ≤ 1048576) (hn : (n.size : Int) ≤ 1099511627776) : Evs (fun k => impl_AddClass.f k t n p) (AddR t n p) := by
  have sm := ht.snoc hl ⟨n, p⟩ hn
  unfold impl_AddClass.f
  refine Evs.bind (P := fun r => t = r) ?_ (fun r hr => ?_)
  · unfold impl_Class_38.f
    exact Evs.yes (by omega) (Evs.ret rfl)
  · subst hr
    refine Evs.yes (by omega) (Evs.bind (P := fun y => t ++ [(⟨n, p⟩ : S62)] = y) (Evs.ret rfl) (fun y hy => ?_))
    subst hy
    refine Evs.bind (ValidTree_ev _ ht) (fun a ha => Evs.ite (fun h => ?_) (fun h => Evs.ret (.inr ⟨fun q => h (ha.2 q.1), rfl⟩)))
    refine Evs.bind (ValidTree_ev _ sm) (fun b hb => Evs.ite (fun h' => ?_) (fun h' => Evs.ret (.inr ⟨fun q => h' (hb.2 q.2), rfl⟩)))
    refine Evs.bind (P := fun q => q = t ++ [(⟨n, p⟩ : S62)]) ?_ (fun q hq => Evs.ret (.inl ⟨⟨ha.1 h, hb.1 h'⟩, by rw [hq]⟩))
    unfold impl_Class_40.f
    exact Evs.ret rfl
theorem sAddClass_ev (t : List S62) (n : ByteArray) (p : Int) (ht : SmallT t) (hl : (t.length : Int) ≤ 1048576) (hn : (n.size : Int) ≤ 1099511627776) : Evs (fun k => spec_AddClass.f k t n p) (AddR t n p) := by
  have sm := ht.snoc hl ⟨n, p⟩ hn
  unfold spec_AddClass.f
  refine Evs.bind (P := fun y => ([] : List S62) = y) (Evs.ret rfl) (fun y hy => ?_)
  subst hy
  refine Evs.yes (by simp; omega) (Evs.bind (P := fun y => t = y) (Evs.ret rfl) (fun y hy => ?_))
  subst hy
  refine Evs.yes (by omega) (Evs.bind (P := fun y => t ++ [(⟨n, p⟩ : S62)] = y) (Evs.ret rfl) (fun y hy => ?_))
  subst hy
  refine Evs.bind (validTree_ev _ ht) (fun a ha => Evs.ite (fun h => ?_) (fun h => Evs.ret (.inr ⟨fun q => h (ha.2 q.1), rfl⟩)))
  exact Evs.bind (validTree_ev _ sm) (fun b hb => Evs.ite (fun h' => Evs.ret (.inl ⟨⟨ha.1 h, hb.1 h'⟩, rfl⟩)) (fun h' => Evs.ret (.inr ⟨fun q => h' (hb.2 q.2), rfl⟩)))
theorem rdSC_old (t : List S62) (c : S62) {a : Int} (h0 : 0 ≤ a) (h1 : a < (t.length : Int)) : rd_T62 (t ++ [c]) a = rd_T62 t a := by
  unfold rd_T62
  rw [getD_nat _ _ _ (by simp; omega), getD_nat _ _ _ (by omega), List.getElem_append_left]
theorem HasC.old {t : List S62} {a : Int} (h : HasC t a) (c : S62) : HasC (t ++ [c]) a := ⟨h.1, by have := h.2; simp; omega⟩
theorem IsWay.old {t : List S62} (c : S62) : ∀ {a : Int} {r : List Int}, IsWay t a r → IsWay (t ++ [c]) a r
  | a, [], h => h
  | a, x :: xs, h => ⟨h.1, h.2.1.old c, by rw [rdSC_old t c h.2.1.1 h.2.1.2]; exact h.2.2.old c⟩
end Go.Proofs.Ytlibkefnlfcakaa.Pure
