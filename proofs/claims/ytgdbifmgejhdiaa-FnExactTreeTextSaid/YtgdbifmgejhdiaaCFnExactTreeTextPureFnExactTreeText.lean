/- The plain proof: what the printed functions tell. Conditions: none beyond the statement's own. -/
import Derived.Test.YtgdbifmgejhdiaaCFnExactTreeTextPureExClass
import Derived.Test.YtgdbifmgejhdiaaCFnExactTreeTextPTx4
import Derived.Test.YtgdbifmgejhdiaaCFnExactTreeTextPTx3
import Derived.Test.YtgdbifmgejhdiaaCFnExactTreeTextPTx5
namespace Go.Proofs.Ytgdbifmgejhdiaa.Pure
open Go.RowKit Go.Proofs.Ytgdbifmgejhdiaa.PT Go.Proofs.YtgdbifmgejhdiaaW.PrintWords Go.Proofs.YtgdbifmgejhdiaaW.PrintLast
set_option linter.unusedVariables false
theorem rdSC_get {t : List S41} {i : Int} (h0 : 0 ≤ i) (h : i < (t.length : Int)) : rd_T41 t i = t[i.toNat]'(by omega) := by
  unfold rd_T41; rw [getD_nat _ _ _ (by omega)]
theorem text_ok {t : List S41} (hv : ValidT t) : impl_TreeText.ok t = true := by
  have hl := hv.1
  unfold impl_TreeText.ok
  rw [Bool.and_eq_true, decide_eq_true_eq, List.all_eq_true]
  refine ⟨by omega, fun c hc => ?_⟩
  obtain ⟨i, hi, rfl⟩ := List.getElem_of_mem hc
  have h := hv.2 i (by omega) (by omega)
  have e : rd_T41 t (i : Int) = t[i] := by rw [rdSC_get (by omega) (by omega)]; rfl
  unfold ClassOk NameOk at h
  rw [e] at h
  rw [Bool.and_eq_true, decide_eq_true_eq, decide_eq_true_eq]
  have h1 := h.1.1
  refine ⟨by omega, ?_⟩
  by_cases q : (i : Int) = 0
  · have := h.2.2.1 q; omega
  · have := h.2.2.2 (by omega); omega
theorem bytes_append (a b : ByteArray) : (a ++ b).data.toList = a.data.toList ++ b.data.toList := by simp
theorem treeText_l0 (t : List S41) (hv : ValidT t) : ∀ (m : Nat) (i : Int) (x : ByteArray), ((t.length : Int) - i).toNat = m → 0 ≤ i → i ≤ t.length → x.data.toList = impl_TreeText.text t (t.take i.toNat) → (x.size : Int) ≤ 14 * i →
    Evs (fun k => spec_treeText.l0 k x i t) (fun r => r.data.toList = impl_TreeText.text t t)
  | 0, i, x, hm, h0, h1, hx, hs => by
    refine Evs.step (fun k => by rw [spec_treeText.l0]) (Evs.no (by omega) (Evs.ret ?_))
    rw [hx, List.take_of_length_le (by omega)]
  | m + 1, i, x, hm, h0, h1, hx, hs => by
    have hi : i < (t.length : Int) := by omega
    have hl := hv.1
    have hc := hv.2 i h0 hi
    have hn := hc.1.1
    have ht := impl_TreeText.text_take t t i.toNat (by omega)
    rw [← rdSC_get h0 hi, ← hx] at ht
    have b1 : ByteArray.size ⟨#[32]⟩ = 1 := rfl
    have b2 : ByteArray.size ⟨#[10]⟩ = 1 := rfl
    refine Evs.step (fun k => by rw [spec_treeText.l0]) (Evs.yes hi (Evs.yes h0 (Evs.yes (by omega) (Evs.ite (fun hp => ?_) (fun hp => ?_)))))
    · have hu := hc.2.2.2 (by omega)
      have hpn := (hv.2 _ hu.1 (by omega)).1.1
      rw [w64 (x := i + 1) (by omega) (by omega)]
      refine Evs.yes (by rw [ByteArray.size_append]; omega) (Evs.yes hu.1 (Evs.yes (by omega) (Evs.yes (by rw [ByteArray.size_append, ByteArray.size_append]; omega) (Evs.yes (by rw [ByteArray.size_append, ByteArray.size_append, ByteArray.size_append]; omega) ?_))))
      refine treeText_l0 t hv m (i + 1) _ (by omega) (by omega) (by omega) ?_ (by rw [ByteArray.size_append, ByteArray.size_append, ByteArray.size_append, ByteArray.size_append]; omega)
      rw [show (i + 1).toNat = i.toNat + 1 by omega, ht]
      unfold impl_TreeText.line
      rw [if_pos hu.1]
      simp only [bytes_append, List.append_assoc]
      rfl
    · have hu := hc.2.2.1 (by omega)
      rw [w64 (x := i + 1) (by omega) (by omega)]
      refine Evs.yes (by rw [ByteArray.size_append]; omega) ?_
      refine treeText_l0 t hv m (i + 1) _ (by omega) (by omega) (by omega) ?_ (by rw [ByteArray.size_append, ByteArray.size_append]; omega)
      rw [show (i + 1).toNat = i.toNat + 1 by omega, ht]
      unfold impl_TreeText.line
      rw [if_neg (by omega)]
      simp only [bytes_append, List.append_assoc]
      rfl
def TextR (t : List S41) (r : ByteArray) : Prop := (ValidT t ∧ r.data.toList = impl_TreeText.text t t) ∨ (¬ ValidT t ∧ r = ⟨#[]⟩)
theorem TextR.uniq {t : List S41} {r s : ByteArray} (h : TextR t r) (k : TextR t s) : r = s := by
  rcases h with ⟨h, e⟩ | ⟨h, e⟩ <;> rcases k with ⟨k, f⟩ | ⟨k, f⟩
  · exact ByteArray.ext (Array.toList_inj.1 (e.trans f.symm))
  · exact absurd h k
  · exact absurd k h
  · rw [e, f]
theorem sTreeText_ev (t : List S41) (ht : SmallT t) : Evs (fun k => spec_TreeText.f k t) (TextR t) := by
  unfold spec_TreeText.f
  refine Evs.bind (validTree_ev t ht) (fun a ha => Evs.ite (fun h => ?_) (fun h => Evs.ret (.inr ⟨fun q => h (ha.2 q), rfl⟩)))
  have hv := ha.1 h
  refine Evs.bind (P := fun r => r.data.toList = impl_TreeText.text t t) ?_ (fun r hr => Evs.ret (.inl ⟨hv, hr⟩))
  unfold spec_treeText.f
  exact treeText_l0 t hv _ 0 ⟨#[]⟩ rfl (by omega) (by omega) rfl (by decide)
theorem TreeText_ev (t : List S41) (ht : SmallT t) : Evs (fun k => impl_TreeText.f k t) (TextR t) := by
  unfold impl_TreeText.f
  refine Evs.bind (ValidTree_ev t ht) (fun a ha => Evs.ite (fun h => ?_) (fun h => Evs.ret (.inr ⟨fun q => h (ha.2 q), rfl⟩)))
  have hv := ha.1 h
  exact Evs.yes (text_ok hv) (Evs.ret (.inl ⟨hv, rfl⟩))
theorem FnExactTreeText : ∀ (l0 : List S50), l0.length ≤ maxLen → (∀ y ∈ l0, y.f0.size ≤ maxLen ∧ (Lit.int .i64 y.f1).wf = true) → ∃ k, laws_FnExactTreeText.f k l0 = some true := by
  intro l hl hs
  apply Evs.done
  unfold laws_FnExactTreeText.f
  refine Evs.bind (szTree_ev l 1048576 hl (fun y hy => (hs y hy).1) (by omega) (by omega)) (fun r hr => Evs.ite (fun _ => Evs.ret rfl) (fun h => ?_))
  have hg := hr.2.2 (by omega)
  have sm := conv_small hg
  refine Evs.bind (toTree_ev l hg.1) (fun t ht => Evs.bind (sTreeText_ev t (by rw [ht]; exact sm)) (fun a ha => ?_))
  refine Evs.bind (toTree_ev l hg.1) (fun u hu => Evs.bind (TreeText_ev u (by rw [hu]; exact sm)) (fun b hb => ?_))
  subst ht hu
  refine Evs.yes (by rw [hb.uniq ha]) (Evs.bind (toTree_ev l hg.1) (fun u hu => ?_))
  subst hu
  exact Evs.bind (eqTree_ev _ (by rw [conv_length]; omega)) (fun c hc => Evs.yes hc (Evs.ret rfl))
end Go.Proofs.Ytgdbifmgejhdiaa.Pure
