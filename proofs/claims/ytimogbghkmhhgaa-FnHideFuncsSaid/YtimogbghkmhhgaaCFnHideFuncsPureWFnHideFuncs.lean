/- The plain proof: what the printed functions tell. Conditions: none beyond the statement's own. -/
import Derived.Test.YtimogbghkmhhgaaCFnHideFuncsPureWLines
import Derived.Test.YtimogbghkmhhgaaCFnHideFuncsPureWHide
import Derived.Test.YtimogbghkmhhgaaCFnHideFuncsPureWHeads
import Derived.WideShapes
import Derived.Test.YtimogbghkmhhgaaCFnHideFuncsPWx3
import Derived.Test.YtimogbghkmhhgaaCFnHideFuncsPWx5
namespace Go.Proofs.Ytimogbghkmhhgaa.Pure
open Go.RowKit Go.Proofs.Ytimogbghkmhhgaa.PW Go.Proofs.YtimogbghkmhhgaaW.PrintWords Go.Proofs.YtimogbghkmhhgaaW.PrintLast
set_option linter.unusedVariables false
set_option linter.unusedSimpArgs false
theorem draw_Hide_l0 (s : List Int) (hs : Bytes s) (m : Nat) : ∀ (x : Int) (acc : List ByteArray) (c : Int), x.toNat = m → x ≤ 3 → -3 ≤ x → acc.length + m ≤ 3 → 0 ≤ c → c + m ≤ 10 →
    Evs (fun k => spec_DrawHideFuncs.l0 k acc x s c) (fun r => OkTr r.1 ∧ r.2.length ≤ 3) := by
  induction m with
  | zero =>
    intro x acc c hm h3 h4 ha hc hc'
    exact Evs.step (fun k => by rw [spec_DrawHideFuncs.l0]) (Evs.no (by omega) (Evs.bind (someTrace_ev s c hs hc (by omega)) (fun t ⟨t1, _, _⟩ => Evs.ret ⟨t1, by simp only; omega⟩)))
  | succ m ih =>
    intro x acc c hm h3 h4 ha hc hc'
    refine Evs.step (fun k => by rw [spec_DrawHideFuncs.l0]) (Evs.yes (by omega) (Evs.bind (of_ev s c _ hs hc (by omega) (by simp)) (fun a ha => Evs.yes (by omega) ?_)))
    have a1 := ha.1
    rw [w64 (x := x - 1) (by omega) (by omega)]
    exact ih (x - 1) _ a.2 (by omega) (by omega) (by omega) (by simp; omega) (by omega) (by omega)
theorem draw_HideFuncs (l : List Int) (h : Bytes l) : Evs (fun k => spec_DrawHideFuncs.f k l) (fun r => OkTr r.1 ∧ r.2.length ≤ 3) := by
  unfold spec_DrawHideFuncs.f
  obtain ⟨r, h1, h2, h3⟩ := newReader_ev l h
  refine Evs.bind (Evs.const (P := fun x => x = r) h1 rfl) (fun _ e => ?_)
  subst e
  refine Evs.bind (pick_ev _ _ 3 h2 (by omega) (by omega)) (fun p ⟨p1, _, p2⟩ => ?_)
  have p2 := p2 (by omega)
  exact draw_Hide_l0 _ h2 _ p.1 [] p.2 rfl (by omega) (by omega) (by simp; omega) (by omega) (by omega)
theorem hid_twice (l : List ByteArray) (t : List S34) : hid l (hid l t) = hid l t := by
  unfold hid
  rw [List.filter_filter]
  congr 1
  funext c
  simp
theorem hasN_mem {l : List ByteArray} {n : ByteArray} (h : n ∈ l) (c : ByteArray) (e : c.toList = n.toList) : hasN l c = true := by
  unfold hasN
  exact List.any_eq_true.2 ⟨n, h, decide_eq_true e.symm⟩
theorem lns_hid_nil (l : List ByteArray) (n : ByteArray) (h : n ∈ l) : ∀ t : List S34, lns n (hid l t) = []
  | [] => rfl
  | c :: t => by
    rw [hid_cons]
    by_cases q : hasN l c.f0 = true
    · rw [if_pos q]; exact lns_hid_nil l n h t
    · rw [if_neg q]
      unfold lns
      rw [if_neg (fun e => q (hasN_mem h c.f0 e))]
      exact lns_hid_nil l n h t
theorem FnHideFuncs_l1 (t : List S34) (l : List ByteArray) (hv : ValidTr t) (hl : l.length ≤ 3) (ht : OkTr t) (m : Nat) : ∀ (x i : Int), ((t.length : Int) - i).toNat = m → 0 ≤ i → i ≤ t.length → 0 ≤ x → x ≤ (hid l t).length → hid l (t.drop i.toNat) = (hid l t).drop x.toNat →
    Evs (fun k => laws_FnHideFuncs.l1 k t l (hid l t) x i) (fun y => y = true) := by
  have hv1 := hv.1
  have hvl := hid_length l t
  induction m with
  | zero =>
    intro x i hm h0 h1 g0 g1 e
    rw [List.drop_eq_nil_of_le (by omega)] at e
    have e2 : (hid l t).length ≤ x.toNat := List.drop_eq_nil_iff.1 e.symm
    have hs : SmallTr (hid l t) := ⟨by omega, fun c hc => ht.small.2 c (List.mem_filter.1 hc).1⟩
    refine Evs.step (fun k => by rw [laws_FnHideFuncs.l1]) (Evs.no (by omega) (Evs.yes (by omega) (Evs.bind (HideFuncs_ev _ l hs (by omega)) (fun u hu => ?_))))
    rcases hu with ⟨_, hu⟩ | ⟨q, _⟩
    case inr => exact absurd (hv.hid l) q
    rw [hid_twice] at hu
    subst hu
    exact Evs.bind (equalTrace_ev _ _ (by omega)) (fun c hc => Evs.ret (hc.2 rfl))
  | succ m ih =>
    intro x i hm h0 h1 g0 g1 e
    have hi : i < (t.length : Int) := by omega
    rw [drop_rdSFh h0 hi, hid_cons] at e
    refine Evs.step (fun k => by rw [laws_FnHideFuncs.l1]) (Evs.yes hi ?_)
    rw [w64 (x := i + 1) (by omega) (by omega)]
    have next : hasN l (rd_T34 t i).f0 = true → Evs (fun k => laws_FnHideFuncs.l1 k t l (hid l t) x (i + 1)) (fun y => y = true) := fun q => by
      rw [if_pos q] at e
      exact ih x (i + 1) (by omega) (by omega) (by omega) g0 g1 e
    by_cases hx : x < ((hid l t).length : Int)
    · refine Evs.yes hx (Evs.yes h0 (Evs.yes g0 ?_))
      rw [w64 (x := x + 1) (by omega) (by omega)]
      rw [drop_rdSFh g0 hx] at e
      by_cases q : hasN l (rd_T34 t i).f0 = true
      · refine Evs.no (fun z => ?_) (next q)
        have hm' : rd_T34 (hid l t) x ∈ hid l t := rdSF_mem g0 hx
        have h5 := (List.mem_filter.1 hm').2
        simp only [Bool.and_eq_true, beq_iff_eq] at z
        have h6 : hasN l (rd_T34 (hid l t) x).f0 = true := by
          unfold hasN at q ⊢
          rwa [z.1] at q
        rw [h6] at h5
        simp at h5
      · rw [if_neg q] at e
        injection e with e1 e2
        refine Evs.yes (by rw [e1]; simp) (ih (x + 1) (i + 1) (by omega) (by omega) (by omega) (by omega) (by omega) e2)
    · refine Evs.no hx (next ?_)
      refine Classical.byContradiction fun q => ?_
      have e3 : (hid l t).drop x.toNat = [] := List.drop_eq_nil_of_le (by omega)
      rw [if_neg q, e3] at e
      cases e
theorem FnHideFuncs_l0 (t : List S34) (l : List ByteArray) (hv : ValidTr t) (hl : l.length ≤ 3) (ht : OkTr t) (m : Nat) : ∀ i : Int, ((l.length : Int) - i).toNat = m → 0 ≤ i → i ≤ l.length →
    Evs (fun k => laws_FnHideFuncs.l0 k t l (hid l t) 0 i) (fun y => y = true) := by
  have hv1 := hv.1
  have hvl := hid_length l t
  induction m with
  | zero =>
    intro i hm h0 h1
    exact Evs.step (fun k => by rw [laws_FnHideFuncs.l0]) (Evs.no (by omega) (FnHideFuncs_l1 t l hv hl ht _ 0 0 rfl (by omega) (by omega) (by omega) (by omega) rfl))
  | succ m ih =>
    intro i hm h0 h1
    have hi : i < (l.length : Int) := by omega
    have hs : SmallTr (hid l t) := ⟨by omega, fun c hc => ht.small.2 c (List.mem_filter.1 hc).1⟩
    refine Evs.step (fun k => by rw [laws_FnHideFuncs.l0]) (Evs.yes hi (Evs.yes h0 (Evs.bind (LinesOf_ev _ _ hs) (fun r hr => ?_))))
    have hz : r = [] := by
      rcases hr with ⟨_, hr⟩ | ⟨_, hr⟩
      · rw [hr]; exact lns_hid_nil l _ (rdOf_mem h0 hi) t
      · exact hr
    rw [w64 (x := i + 1) (by omega) (by omega)]
    exact Evs.no (by rw [hz]; simp) (ih (i + 1) (by omega) (by omega) (by omega))
theorem FnHideFuncs_j0 (t : List S34) (l : List ByteArray) (r : List S34) (b : Bool) (ht : OkTr t) (hl : l.length ≤ 3) (hr : HideR t l r) (hb : b = false → ValidTr t) : Evs (fun k => laws_FnHideFuncs.j0 k t l r b) (fun y => y = true) := by
  have hrl := hr.len
  refine Evs.step (fun k => by rw [laws_FnHideFuncs.j0]) (Evs.ite (fun h => ?_) (fun h => ?_))
  · exact Evs.bind (sHideFuncs_ev t l ht.small (by omega)) (fun s hs => Evs.bind (equalTrace_ev r s (by omega)) (fun c hc => Evs.ret (hc.2 (hr.uniq hs))))
  · have hv := hb (by simpa using h)
    rcases hr with ⟨_, hr⟩ | ⟨q, _⟩
    case inr => exact absurd hv q
    subst hr
    exact FnHideFuncs_l0 t l hv hl ht _ 0 rfl (by omega) (by omega)
theorem FnHideFuncs : laws_FnHideFuncs.Pure := by
  intro l h0 h1 h2
  apply Evs.done
  unfold laws_FnHideFuncs.f
  refine Evs.ite (fun _ => Evs.ret rfl) (fun _ => ?_)
  refine Evs.bind (draw_HideFuncs l (bytes_of_wf h2)) (fun d ⟨d1, d2⟩ => Evs.bind (HideFuncs_ev _ _ d1.small (by omega)) (fun a ha => Evs.bind (sHideFuncs_ev _ _ d1.small (by omega)) (fun b hb => ?_)))
  have hl := ha.len
  refine Evs.bind (equalTrace_ev _ _ (by omega)) (fun c hc => Evs.yes (hc.2 (ha.uniq hb)) ?_)
  exact Evs.bind (ValidTrace_ev _ d1.small) (fun v hv => FnHideFuncs_j0 _ _ _ _ d1 d2 ha (fun q => hv.1 (by simpa using q)))
end Go.Proofs.Ytimogbghkmhhgaa.Pure
