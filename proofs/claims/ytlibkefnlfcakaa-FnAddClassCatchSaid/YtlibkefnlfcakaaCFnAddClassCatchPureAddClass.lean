/- The plain proof: what the printed functions tell. Conditions: none beyond the statement's own. -/
import Derived.Test.YtlibkefnlfcakaaCFnAddClassCatchPureBelow
import Derived.WideShapes
import Derived.Test.YtlibkefnlfcakaaCFnAddClassCatchPTx6
import Derived.Test.YtlibkefnlfcakaaCFnAddClassCatchPTx8
import Derived.Test.YtlibkefnlfcakaaCFnAddClassCatchPTx5
namespace Go.Proofs.Ytlibkefnlfcakaa.Pure
open Go.RowKit Go.Proofs.Ytlibkefnlfcakaa.PT Go.Proofs.YtlibkefnlfcakaaW.PrintWords
set_option linter.unusedVariables false
set_option linter.unusedSimpArgs false
theorem SmallT.snoc {t : List S62} (h : SmallT t) (hl : (t.length : Int) ≤ 1048576) (c : S62) (hc : (c.f0.size : Int) ≤ 1099511627776) : SmallT (t ++ [c]) := by
  refine ⟨by simp; omega, fun x hx => ?_⟩
  rw [List.mem_append, List.mem_singleton] at hx
  rcases hx with hx | rfl
  · exact h.2 x hx
  · exact hc
def AddR (t : List S62) (n : ByteArray) (p : Int) (r : List S62 × Bool) : Prop :=
  ((ValidT t ∧ ValidT (t ++ [(⟨n, p⟩ : S62)])) ∧ r = (t ++ [(⟨n, p⟩ : S62)], true)) ∨ (¬ (ValidT t ∧ ValidT (t ++ [(⟨n, p⟩ : S62)])) ∧ r = ([], false))
theorem AddR.uniq {t : List S62} {n : ByteArray} {p : Int} {r s : List S62 × Bool} (h : AddR t n p r) (k : AddR t n p s) : r = s := by
  rcases h with ⟨h1, h2⟩ | ⟨h1, h2⟩ <;> rcases k with ⟨k1, k2⟩ | ⟨k1, k2⟩
  · rw [h2, k2]
  · exact absurd h1 k1
  · exact absurd k1 h1
  · rw [h2, k2]
theorem AddR.len {t : List S62} {n : ByteArray} {p : Int} {r : List S62 × Bool} (h : AddR t n p r) : (r.1.length : Int) ≤ 8 := by
  rcases h with ⟨h1, h2⟩ | ⟨h1, h2⟩
  · have := h1.2.1
    rw [h2]; exact this.2
  · rw [h2]; simp
theorem AddClass_ev (t : List S62) (n : ByteArray) (p : Int) (ht : SmallT t) (hl : (t.length : Int) ≤ 1048576) (hn : (n.size : Int) ≤ 1099511627776) : Evs (fun k => impl_AddClass.f k t n p) (AddR t n p) := by
  have sm := ht.snoc hl ⟨n, p⟩ hn
  unfold impl_AddClass.f
  refine Evs.bind (P := fun r => t = r) ?_ (fun r hr => ?_)
  · unfold impl_Class_38.f
    exact Evs.yes (by omega) (Evs.ret rfl)
  · subst hr
    refine Evs.yes (by omega) (Evs.bind (P := fun y => t ++ [(⟨n, p⟩ : S62)] = y) (Evs.ret rfl) (fun y hy => ?_))
    subst hy
    refine Evs.bind (ValidTree_ev _ ht) (fun a ha => Evs.ite (fun h => ?_) (fun h => Evs.ret (.inr ⟨fun q => h (ha.2 q.1), rfl⟩)))
    refine Evs.bind (ValidTree_ev _ sm) (fun b hb => Evs.ite (fun h' => ?_) (fun h' => Evs.ret (.inr ⟨fun q => h' (hb.2 q.2), rfl⟩)))
    refine Evs.bind (P := fun q => q = t ++ [(⟨n, p⟩ : S62)]) ?_ (fun q hq => Evs.ret (.inl ⟨⟨ha.1 h, hb.1 h'⟩, by rw [hq]⟩))
    unfold impl_Class_40.f
    exact Evs.ret rfl
theorem sAddClass_ev (t : List S62) (n : ByteArray) (p : Int) (ht : SmallT t) (hl : (t.length : Int) ≤ 1048576) (hn : (n.size : Int) ≤ 1099511627776) : Evs (fun k => spec_AddClass.f k t n p) (AddR t n p) := by
  have sm := ht.snoc hl ⟨n, p⟩ hn
  unfold spec_AddClass.f
  refine Evs.bind (P := fun y => ([] : List S62) = y) (Evs.ret rfl) (fun y hy => ?_)
  subst hy
  refine Evs.yes (by simp; omega) (Evs.bind (P := fun y => t = y) (Evs.ret rfl) (fun y hy => ?_))
  subst hy
  refine Evs.yes (by omega) (Evs.bind (P := fun y => t ++ [(⟨n, p⟩ : S62)] = y) (Evs.ret rfl) (fun y hy => ?_))
  subst hy
  refine Evs.bind (validTree_ev _ ht) (fun a ha => Evs.ite (fun h => ?_) (fun h => Evs.ret (.inr ⟨fun q => h (ha.2 q.1), rfl⟩)))
  exact Evs.bind (validTree_ev _ sm) (fun b hb => Evs.ite (fun h' => Evs.ret (.inl ⟨⟨ha.1 h, hb.1 h'⟩, rfl⟩)) (fun h' => Evs.ret (.inr ⟨fun q => h' (hb.2 q.2), rfl⟩)))
theorem ctl_inj {a b : ByteArray} (h : a.toList = b.toList) : a = b := by
  rw [ByteArray.toList_eq, ByteArray.toList_eq] at h
  exact Go.WideShapes.bytes_inj h
theorem csame_iff (a b : S62) : ((a.f0.toList == b.f0.toList) && (a.f1 == b.f1)) = true ↔ a = b := by
  rw [Bool.and_eq_true, beq_iff_eq, beq_iff_eq]
  refine ⟨fun ⟨h, k⟩ => ?_, fun h => by subst h; exact ⟨rfl, rfl⟩⟩
  cases a
  cases b
  have := ctl_inj h
  simp only at this k
  rw [this, k]
theorem cdiff_iff (a b : S62) : (!(a.f0.toList == b.f0.toList) || !(a.f1 == b.f1)) = true ↔ a ≠ b := by
  rw [← Bool.not_and, Bool.not_eq_true', ← Bool.not_eq_true, csame_iff]
theorem ext_rdSC {x y : List S62} (hl : x.length = y.length) (h : ∀ j : Int, 0 ≤ j → j < x.length → rd_T62 x j = rd_T62 y j) : x = y := by
  refine List.ext_getElem hl fun i h1 h2 => ?_
  have := h i (by omega) (by omega)
  unfold rd_T62 at this
  rwa [Int.toNat_natCast, getD_nat _ _ _ h1, getD_nat _ _ _ h2] at this
theorem equalTree_l0 (x y : List S62) (hl : x.length = y.length) (hx : (x.length : Int) ≤ 1099511627776) : ∀ (m : Nat) (i : Int), ((x.length : Int) - i).toNat = m → 0 ≤ i → i ≤ x.length →
    Evs (fun k => laws_equalTree.l0 k i x y) (fun r => r = true ↔ ∀ j : Int, i ≤ j → j < x.length → rd_T62 x j = rd_T62 y j)
  | 0, i, hm, h0, h1 => by
    exact Evs.step (fun k => by rw [laws_equalTree.l0]) (Evs.no (by omega) (Evs.ret ⟨fun _ j j0 j1 => by omega, fun _ => rfl⟩))
  | m + 1, i, hm, h0, h1 => by
    refine Evs.step (fun k => by rw [laws_equalTree.l0]) (Evs.yes (by omega) (Evs.yes h0 (Evs.yes (by omega) (Evs.ite (fun h => Evs.ret ⟨fun q => by simp at q, fun q => absurd (q i (by omega) (by omega)) ((cdiff_iff _ _).1 h)⟩) (fun h => ?_)))))
    have h : rd_T62 x i = rd_T62 y i := Classical.byContradiction fun q => h ((cdiff_iff _ _).2 q)
    rw [w64 (x := i + 1) (by omega) (by omega)]
    refine (equalTree_l0 x y hl hx m (i + 1) (by omega) (by omega) (by omega)).imp fun r hr => ?_
    rw [hr]
    exact ⟨fun q => from_here (P := fun j => rd_T62 x j = rd_T62 y j) h q, fun q j j0 j1 => q j (by omega) j1⟩
theorem equalTree_ev (x y : List S62) (hx : (x.length : Int) ≤ 1099511627776) : Evs (fun k => laws_equalTree.f k x y) (fun r => r = true ↔ x = y) := by
  unfold laws_equalTree.f
  refine Evs.ite (fun h => ?_) (fun h => Evs.ret ⟨fun q => by simp at q, fun q => absurd (by rw [q]) h⟩)
  have hl : x.length = y.length := by omega
  refine (equalTree_l0 x y hl hx _ 0 rfl (by omega) (by omega)).imp fun r hr => ?_
  rw [hr]
  exact ⟨fun q => ext_rdSC hl q, fun q j _ _ => by rw [q]⟩
theorem draw_AddClass (l : List Int) (h : Bytes l) : Evs (fun k => spec_DrawAddClass.f k l) (fun r => OkT r.1 ∧ (r.2.1.size : Int) ≤ 100) := by
  unfold spec_DrawAddClass.f
  obtain ⟨r, h1, h2, h3⟩ := newReader_ev l h
  refine Evs.bind (Evs.const (P := fun x => x = r) h1 rfl) (fun _ e => ?_)
  subst e
  refine Evs.bind (someTree_ev _ _ h2 (by omega) (by omega)) (fun t ⟨t1, t2, t3⟩ => Evs.bind (of_ev _ _ _ h2 t2 (by omega) (by simp)) (fun d ⟨d1, d2⟩ => Evs.bind (aClass_ev _ _ _ h2 (by omega) (by omega) t1) (fun _ _ => Evs.ret ⟨t1, ?_⟩)))
  simp only [List.mem_cons, List.not_mem_nil, or_false] at d2
  have e : d.1.size ≤ 100 := by rcases d2 with d2 | d2 | d2 | d2 | d2 <;> rw [d2] <;> decide
  simp only
  omega
theorem rdSC_old (t : List S62) (c : S62) {a : Int} (h0 : 0 ≤ a) (h1 : a < (t.length : Int)) : rd_T62 (t ++ [c]) a = rd_T62 t a := by
  unfold rd_T62
  rw [getD_nat _ _ _ (by simp; omega), getD_nat _ _ _ (by omega), List.getElem_append_left]
theorem rdSC_new (t : List S62) (c : S62) : rd_T62 (t ++ [c]) (t.length : Int) = c := by
  unfold rd_T62
  rw [Int.toNat_natCast, getD_nat _ _ _ (by simp)]
  simp
theorem HasC.old {t : List S62} {a : Int} (h : HasC t a) (c : S62) : HasC (t ++ [c]) a := ⟨h.1, by have := h.2; simp; omega⟩
theorem hasNew (t : List S62) (c : S62) : HasC (t ++ [c]) (t.length : Int) := ⟨by omega, by simp; omega⟩
theorem IsWay.old {t : List S62} (c : S62) : ∀ {a : Int} {r : List Int}, IsWay t a r → IsWay (t ++ [c]) a r
  | a, [], h => h
  | a, x :: xs, h => ⟨h.1, h.2.1.old c, by rw [rdSC_old t c h.2.1.1 h.2.1.2]; exact h.2.2.old c⟩
theorem parent_has {t : List S62} {n : ByteArray} {p : Int} (hv : ValidT t) (hw : ValidT (t ++ [(⟨n, p⟩ : S62)])) : HasC t p := by
  have h1 := hv.1.1
  have h2 := (hw.2 (t.length : Int) (by omega) (by simp; omega)).2.2.2 (by omega)
  rw [rdSC_new] at h2
  exact ⟨h2.1, by have := h2.2; simp only at this; omega⟩
theorem new_way {t : List S62} {n : ByteArray} {p : Int} (hv : ValidT t) (hw : ValidT (t ++ [(⟨n, p⟩ : S62)])) {s : List Int} (h : IsWay t p s) : IsWay (t ++ [(⟨n, p⟩ : S62)]) (t.length : Int) ((t.length : Int) :: s) :=
  ⟨rfl, hasNew _ _, by rw [rdSC_new]; exact h.old _⟩
theorem new_bel {t : List S62} {n : ByteArray} {p : Int} (hv : ValidT t) (hw : ValidT (t ++ [(⟨n, p⟩ : S62)])) {a : Int} (ha : HasC t a) : Bel (t ++ [(⟨n, p⟩ : S62)]) (t.length : Int) a ↔ Bel t p a := by
  obtain ⟨s, hs, _⟩ := Bel.refl hv (parent_has hv hw)
  rw [← Bel.of_way (new_way hv hw hs), ← Bel.of_way hs, List.mem_cons]
  exact ⟨fun q => q.resolve_left (by have := ha.2; omega), fun q => .inr q⟩
end Go.Proofs.Ytlibkefnlfcakaa.Pure
