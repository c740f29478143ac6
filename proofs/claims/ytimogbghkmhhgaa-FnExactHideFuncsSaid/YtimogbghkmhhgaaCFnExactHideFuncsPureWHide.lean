/- The plain proof: what the printed functions tell. Conditions: none beyond the statement's own. -/
import Derived.Test.YtimogbghkmhhgaaCFnExactHideFuncsPureWTrace
import Derived.Test.YtimogbghkmhhgaaCFnExactHideFuncsPWx4
import Derived.Test.YtimogbghkmhhgaaCFnExactHideFuncsPWx5
namespace Go.Proofs.Ytimogbghkmhhgaa.Pure
open Go.RowKit Go.Proofs.Ytimogbghkmhhgaa.PW Go.Proofs.YtimogbghkmhhgaaW.PrintWords
set_option linter.unusedVariables false
set_option linter.unusedSimpArgs false
def hasN (l : List ByteArray) (n : ByteArray) : Bool := l.any fun x => decide (x.toList = n.toList)
theorem hasN_cons (x : ByteArray) (l : List ByteArray) (n : ByteArray) : hasN (x :: l) n = (decide (x.toList = n.toList) || hasN l n) := rfl
theorem drop_rdOf {l : List ByteArray} {i : Int} (h0 : 0 ≤ i) (h : i < (l.length : Int)) : l.drop i.toNat = rdOf ByteArray.empty l i :: l.drop (i + 1).toNat := by
  unfold rdOf
  rw [getD_nat _ _ _ (by omega), show (i + 1).toNat = i.toNat + 1 by omega]
  exact List.drop_eq_getElem_cons (by omega)
def hid (l : List ByteArray) (t : List S34) : List S34 := t.filter fun c => !(hasN l c.f0)
theorem hid_cons (l : List ByteArray) (c : S34) (t : List S34) : hid l (c :: t) = if hasN l c.f0 = true then hid l t else c :: hid l t := by
  unfold hid
  rw [List.filter_cons]
  cases hasN l c.f0 <;> simp
theorem index_l0 (l : List ByteArray) (n : ByteArray) (hl : (l.length : Int) ≤ 1099511627776) (m : Nat) : ∀ i : Int, ((l.length : Int) - i).toNat = m → 0 ≤ i → i ≤ l.length →
    Evs (fun k => slices_Index_string_string.l0 k l n l.length i) (fun r => (hasN (l.drop i.toNat) n = true ∧ 0 ≤ r) ∨ (hasN (l.drop i.toNat) n = false ∧ r = -1)) := by
  induction m with
  | zero =>
    intro i hm h0 h1
    exact Evs.step (fun k => by rw [slices_Index_string_string.l0]) (Evs.no (by omega) (Evs.ret (.inr ⟨by rw [List.drop_eq_nil_of_le (by omega)]; rfl, rfl⟩)))
  | succ m ih =>
    intro i hm h0 h1
    have hi : i < (l.length : Int) := by omega
    rw [drop_rdOf h0 hi, hasN_cons]
    refine Evs.step (fun k => by rw [slices_Index_string_string.l0]) (Evs.yes hi (Evs.yes h0 (Evs.yes hi ?_)))
    rw [w64 (x := i + 1) (by omega) (by omega)]
    refine Evs.ite (fun h => Evs.ret (.inl ⟨by rw [decide_eq_true h.symm]; rfl, h0⟩)) (fun h => ?_)
    refine (ih (i + 1) (by omega) (by omega) (by omega)).imp fun r hr => ?_
    rw [decide_eq_false (fun q => h q.symm), Bool.false_or]
    exact hr
theorem contains_ev (l : List ByteArray) (n : ByteArray) (hl : (l.length : Int) ≤ 1099511627776) : Evs (fun k => slices_Contains_string_string.f k l n) (fun r => r = hasN l n) := by
  unfold slices_Contains_string_string.f slices_Index_string_string.f
  refine Evs.bind (index_l0 l n hl _ 0 rfl (by omega) (by omega)) (fun r hr => Evs.ret ?_)
  rw [show (0 : Int).toNat = 0 from rfl, List.drop_zero] at hr
  rcases hr with ⟨h1, h2⟩ | ⟨h1, h2⟩
  · rw [h1]; exact decide_eq_true h2
  · rw [h1]; exact decide_eq_false (by omega)
theorem keep_ev (l : List ByteArray) (hl : (l.length : Int) ≤ 1099511627776) : ∀ t : List S34, Evs (fun k => keepO (fun x => slices_Contains_string_string.f k l x.f0) t) (fun r => r = hid l t)
  | [] => by
    show Evs (fun _ => some []) _
    exact Evs.ret rfl
  | c :: t => by
    show Evs (fun k => (slices_Contains_string_string.f k l c.f0).bind fun b => (keepO (fun x => slices_Contains_string_string.f k l x.f0) t).bind fun r => some (if b = true then r else c :: r)) _
    refine Evs.bind (contains_ev l c.f0 hl) (fun b hb => Evs.bind (keep_ev l hl t) (fun r hr => Evs.ret ?_))
    rw [hid_cons, ← hb, hr]
def HideR (t : List S34) (l : List ByteArray) (r : List S34) : Prop := (ValidTr t ∧ r = hid l t) ∨ (¬ ValidTr t ∧ r = [])
theorem HideR.uniq {t : List S34} {l : List ByteArray} {r s : List S34} (h : HideR t l r) (k : HideR t l s) : r = s := by
  rcases h with ⟨h1, h2⟩ | ⟨h1, h2⟩ <;> rcases k with ⟨k1, k2⟩ | ⟨k1, k2⟩
  · rw [h2, k2]
  · exact absurd h1 k1
  · exact absurd k1 h1
  · rw [h2, k2]
theorem hid_length (l : List ByteArray) (t : List S34) : (hid l t).length ≤ t.length := List.length_filter_le _ _
theorem ValidTr.hid {t : List S34} (h : ValidTr t) (l : List ByteArray) : ValidTr (hid l t) := ⟨by have := h.1; have := hid_length l t; omega, fun c hc => h.2 c (List.mem_filter.1 hc).1⟩
theorem HideR.len {t : List S34} {l : List ByteArray} {r : List S34} (h : HideR t l r) : (r.length : Int) ≤ 12 := by
  rcases h with ⟨h1, h2⟩ | ⟨h1, h2⟩
  · have := h1.1
    have := hid_length l t
    rw [h2]; omega
  · rw [h2]; simp
theorem HideFuncs_ev (t : List S34) (l : List ByteArray) (ht : SmallTr t) (hl : (l.length : Int) ≤ 1099511627776) : Evs (fun k => impl_HideFuncs.f k t l) (HideR t l) := by
  have htl := ht.1
  unfold impl_HideFuncs.f
  refine Evs.bind (ValidTrace_ev t ht) (fun a ha => Evs.ite (fun h => ?_) (fun h => Evs.ret (.inr ⟨fun q => h (ha.2 q), rfl⟩)))
  refine Evs.bind (P := fun r => t = r) ?_ (fun r hr => ?_)
  · unfold impl_Frame_69.f
    exact Evs.yes (by omega) (Evs.ret rfl)
  · subst hr
    refine Evs.bind (keep_ev l hl t) (fun u hu => ?_)
    unfold impl_Frame_70.f
    exact Evs.ret (.inl ⟨ha.1 h, hu⟩)
theorem hasText_l0 (l : List ByteArray) (n : ByteArray) (hl : (l.length : Int) ≤ 1099511627776) (m : Nat) : ∀ i : Int, ((l.length : Int) - i).toNat = m → 0 ≤ i → i ≤ l.length →
    Evs (fun k => spec_hasText.l0 k l n i) (fun r => r = hasN (l.drop i.toNat) n) := by
  induction m with
  | zero =>
    intro i hm h0 h1
    exact Evs.step (fun k => by rw [spec_hasText.l0]) (Evs.no (by omega) (Evs.ret (by rw [List.drop_eq_nil_of_le (by omega)]; rfl)))
  | succ m ih =>
    intro i hm h0 h1
    have hi : i < (l.length : Int) := by omega
    rw [drop_rdOf h0 hi, hasN_cons]
    refine Evs.step (fun k => by rw [spec_hasText.l0]) (Evs.yes hi (Evs.yes h0 ?_))
    rw [w64 (x := i + 1) (by omega) (by omega)]
    refine Evs.ite (fun h => Evs.ret (by rw [decide_eq_true h]; rfl)) (fun h => ?_)
    refine (ih (i + 1) (by omega) (by omega) (by omega)).imp fun r hr => ?_
    rw [decide_eq_false h, Bool.false_or]
    exact hr
theorem hasText_ev (l : List ByteArray) (n : ByteArray) (hl : (l.length : Int) ≤ 1099511627776) : Evs (fun k => spec_hasText.f k l n) (fun r => r = hasN l n) := by
  unfold spec_hasText.f
  exact hasText_l0 l n hl _ 0 rfl (by omega) (by omega)
theorem drop_rdSFh {t : List S34} {i : Int} (h0 : 0 ≤ i) (h : i < (t.length : Int)) : t.drop i.toNat = rd_T34 t i :: t.drop (i + 1).toNat := by
  unfold rd_T34
  rw [getD_nat _ _ _ (by omega), show (i + 1).toNat = i.toNat + 1 by omega]
  exact List.drop_eq_getElem_cons (by omega)
theorem sHide_l0 (t : List S34) (l : List ByteArray) (hl : (l.length : Int) ≤ 1099511627776) (ht : (t.length : Int) ≤ 12) (m : Nat) : ∀ (i : Int) (acc : List S34), ((t.length : Int) - i).toNat = m → 0 ≤ i → i ≤ t.length → acc.length + m ≤ 100 →
    Evs (fun k => spec_HideFuncs.l0 k t l acc i) (fun r => r = acc ++ hid l (t.drop i.toNat)) := by
  induction m with
  | zero =>
    intro i acc hm h0 h1 ha
    exact Evs.step (fun k => by rw [spec_HideFuncs.l0]) (Evs.no (by omega) (Evs.ret (by rw [List.drop_eq_nil_of_le (by omega)]; simp [hid])))
  | succ m ih =>
    intro i acc hm h0 h1 ha
    have hi : i < (t.length : Int) := by omega
    rw [drop_rdSFh h0 hi, hid_cons]
    refine Evs.step (fun k => by rw [spec_HideFuncs.l0]) (Evs.yes hi (Evs.yes h0 ?_))
    rw [w64 (x := i + 1) (by omega) (by omega)]
    refine Evs.bind (hasText_ev l _ hl) (fun b hb => ?_)
    rw [← hb]
    refine Evs.ite (fun h => ?_) (fun h => Evs.yes (by omega) ?_)
    · rw [if_pos h]
      exact ih (i + 1) acc (by omega) (by omega) (by omega) (by omega)
    · rw [if_neg h]
      exact (ih (i + 1) _ (by omega) (by omega) (by omega) (by simp; omega)).imp fun r hr => by rw [hr]; simp
theorem sHideFuncs_ev (t : List S34) (l : List ByteArray) (ht : SmallTr t) (hl : (l.length : Int) ≤ 1099511627776) : Evs (fun k => spec_HideFuncs.f k t l) (HideR t l) := by
  unfold spec_HideFuncs.f
  refine Evs.bind (validTrace_ev t ht) (fun a ha => Evs.ite (fun h => ?_) (fun h => Evs.ret (.inr ⟨fun q => h (ha.2 q), rfl⟩)))
  have hv := ha.1 h
  have := hv.1
  exact (sHide_l0 t l hl hv.1 _ 0 [] rfl (by omega) (by omega) (by simp; omega)).imp fun r hr => .inl ⟨hv, by rw [hr]; simp⟩
end Go.Proofs.Ytimogbghkmhhgaa.Pure
