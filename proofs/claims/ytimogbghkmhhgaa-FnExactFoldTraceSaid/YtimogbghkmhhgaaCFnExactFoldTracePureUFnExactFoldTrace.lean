/- The plain proof: what the printed functions tell. Conditions: none beyond the statement's own. -/
import Derived.Test.YtimogbghkmhhgaaCFnExactFoldTracePureUMarkFrame
import Derived.Test.YtimogbghkmhhgaaCFnExactFoldTracePureUFold
import Derived.Test.YtimogbghkmhhgaaCFnExactFoldTracePUx5
import Derived.Test.YtimogbghkmhhgaaCFnExactFoldTracePUx6
import Derived.Test.YtimogbghkmhhgaaCFnExactFoldTracePUx7
namespace Go.Proofs.Ytimogbghkmhhgaa.Pure
open Go.RowKit Go.Proofs.Ytimogbghkmhhgaa.PU Go.Proofs.YtimogbghkmhhgaaW.PrintWords Go.Proofs.YtimogbghkmhhgaaW.PrintLast
set_option linter.unusedVariables false
set_option linter.unusedSimpArgs false
theorem eqRow_l0 (x : List S70) (hx : (x.length : Int) ≤ 1099511627776) : ∀ (m : Nat) (i : Int), ((x.length : Int) - i).toNat = m → 0 ≤ i → i ≤ x.length → Evs (fun k => laws_eqRowS.l0 k x x i) (fun r => r = true)
  | 0, i, hm, h0, h1 => Evs.step (fun k => by rw [laws_eqRowS.l0]) (Evs.no (by omega) (Evs.ret rfl))
  | m + 1, i, hm, h0, h1 => by
    refine Evs.step (fun k => by rw [laws_eqRowS.l0]) (Evs.yes (by omega) (Evs.yes h0 (Evs.yes (by omega) (Evs.bind (P := fun r => r = true) ?_ (fun r hr => Evs.yes hr ?_)))))
    · unfold laws_eqRow.f laws_eqFrame.f
      exact Evs.bind (P := fun r => r = true) (Evs.yes rfl (Evs.yes rfl (Evs.ret rfl))) (fun r hr => Evs.yes hr (Evs.yes rfl (Evs.ret rfl)))
    · rw [w64 (x := i + 1) (by omega) (by omega)]
      exact eqRow_l0 x hx m (i + 1) (by omega) (by omega) (by omega)
theorem eqRow_ev (x : List S70) (hx : (x.length : Int) ≤ 1099511627776) : Evs (fun k => laws_eqRowS.f k x x) (fun r => r = true) := by
  unfold laws_eqRowS.f
  exact Evs.yes rfl (eqRow_l0 x hx _ 0 rfl (by omega) (by omega))
theorem rdSR_set (x : List S70) (v : S70) {i j : Int} (hi : 0 ≤ i) (hj : 0 ≤ j) (hj' : j < x.length) : rd_T70 (x.set i.toNat v) j = if j = i then v else rd_T70 x j := by
  unfold rd_T70
  rw [getD_nat _ _ _ (by simp; omega), getD_nat _ _ _ (by omega), List.getElem_set]
  by_cases e : j = i
  · subst e; simp
  · rw [if_neg e, if_neg (by omega)]
def MarkedR (l : List S70) (a : Int) : Prop := ∀ j : Int, 0 ≤ j → j < l.length → Ev (fun k => laws_markText.f k (a + 3 * j)) (rd_T70 l j).f0.f0 ∧ (rd_T70 l j).f0.f1 = a + 3 * j + 1 ∧ (rd_T70 l j).f1 = a + 3 * j + 2
theorem markRow_l0 (n : Nat) (hn : (n : Int) ≤ 1073741824) (a : Int) (ha : 0 ≤ a) (ha' : a ≤ 1073741824) (m : Nat) : ∀ (i : Int) (x : List S70), ((n : Int) - i).toNat = m → 0 ≤ i → i ≤ n → x.length = n →
    (∀ j : Int, 0 ≤ j → j < i → Ev (fun k => laws_markText.f k (a + 3 * j)) (rd_T70 x j).f0.f0 ∧ (rd_T70 x j).f0.f1 = a + 3 * j + 1 ∧ (rd_T70 x j).f1 = a + 3 * j + 2) →
    Evs (fun k => laws_markRowS.l0 k x (a + 3 * i) i) (fun r => r.1 = a + 3 * n ∧ r.2.length = n ∧ MarkedR r.2 a) := by
  induction m with
  | zero =>
    intro i x hm h0 h1 hx hj
    exact Evs.step (fun k => by rw [laws_markRowS.l0]) (Evs.no (by omega) (Evs.ret ⟨by simp only; omega, hx, fun j j0 j1 => hj j j0 (by simp only at j1; omega)⟩))
  | succ m ih =>
    intro i x hm h0 h1 hx hj
    obtain ⟨s, hs⟩ := markText_ev (a + 3 * i) (by omega)
    refine Evs.step (fun k => by rw [laws_markRowS.l0]) (Evs.yes (by omega) (Evs.bind (P := fun t => t = s) ⟨s, hs, rfl⟩ (fun t ht => Evs.yes h0 ?_)))
    subst ht
    rw [w64 (x := i + 1) (by omega) (by omega), w64 (x := a + 3 * i + 1) (by omega) (by omega), w64 (x := a + 3 * i + 1 + 1) (by omega) (by omega), w64 (x := a + 3 * i + 1 + 1 + 1) (by omega) (by omega)]
    refine Evs.bind (P := fun y => y = x.set i.toNat ⟨⟨t, (rd_T70 x i).f0.f1⟩, (rd_T70 x i).f1⟩) (Evs.ret rfl) (fun y hy => ?_)
    have hyl : y.length = n := by rw [hy]; simpa using hx
    have hyi : rd_T70 y i = ⟨⟨t, (rd_T70 x i).f0.f1⟩, (rd_T70 x i).f1⟩ := by rw [hy, rdSR_set x _ h0 h0 (by omega), if_pos rfl]
    have hyj : ∀ j : Int, 0 ≤ j → j < i → rd_T70 y j = rd_T70 x j := fun j j0 j1 => by rw [hy, rdSR_set x _ h0 j0 (by omega), if_neg (by omega)]
    refine Evs.bind (P := fun z => z = y.set i.toNat ⟨⟨(rd_T70 y i).f0.f0, a + 3 * i + 1⟩, (rd_T70 y i).f1⟩) (Evs.ret rfl) (fun z hz => ?_)
    have hzl : z.length = n := by rw [hz]; simpa using hyl
    have hzi : rd_T70 z i = ⟨⟨t, a + 3 * i + 1⟩, (rd_T70 x i).f1⟩ := by rw [hz, rdSR_set y _ h0 h0 (by omega), if_pos rfl, hyi]
    have hzj : ∀ j : Int, 0 ≤ j → j < i → rd_T70 z j = rd_T70 x j := fun j j0 j1 => by rw [hz, rdSR_set y _ h0 j0 (by omega), if_neg (by omega), hyj j j0 j1]
    rw [show a + 3 * i + 1 + 1 + 1 = a + 3 * (i + 1) by omega]
    refine ih (i + 1) _ (by omega) (by omega) (by omega) (by simpa using hzl) (fun j j0 j1 => ?_)
    rw [rdSR_set z _ h0 j0 (by omega)]
    by_cases e : j = i
    · subst e
      rw [if_pos rfl, hzi]
      exact ⟨hs, rfl, by simp only; omega⟩
    · rw [if_neg e, hzj j j0 (by omega)]
      exact hj j j0 (by omega)
theorem markRow_ev (l : List S70) (a : Int) (hl : (l.length : Int) ≤ 1073741824) (ha : 0 ≤ a) (ha' : a ≤ 1073741824) : Evs (fun k => laws_markRowS.f k l a) (fun r => r.1 = a + 3 * l.length ∧ r.2.length = l.length ∧ MarkedR r.2 a) := by
  unfold laws_markRowS.f
  have := markRow_l0 l.length hl a ha ha' _ 0 l rfl (by omega) (by omega) rfl (fun j _ _ => by omega)
  rwa [Int.mul_zero, Int.add_zero] at this
theorem heldRow_l0 (l : List S70) (hl : (l.length : Int) ≤ 1073741824) (a : Int) (ha : 0 ≤ a) (ha' : a ≤ 1073741824) (h : MarkedR l a) (m : Nat) : ∀ (i : Int), ((l.length : Int) - i).toNat = m → 0 ≤ i → i ≤ l.length →
    Evs (fun k => laws_heldRowS.l0 k l (a + 3 * i) i) (fun r => r = a + 3 * l.length) := by
  induction m with
  | zero =>
    intro i hm h0 h1
    exact Evs.step (fun k => by rw [laws_heldRowS.l0]) (Evs.no (by omega) (Evs.ret (by omega)))
  | succ m ih =>
    intro i hm h0 h1
    obtain ⟨e1, e2, e3⟩ := h i h0 (by omega)
    refine Evs.step (fun k => by rw [laws_heldRowS.l0]) (Evs.yes (by omega) (Evs.yes h0 (Evs.bind (P := fun t => t = (rd_T70 l i).f0.f0) ⟨_, e1, rfl⟩ (fun t ht => Evs.yes (by rw [ht]) ?_))))
    rw [w64 (x := i + 1) (by omega) (by omega), w64 (x := a + 3 * i + 1) (by omega) (by omega), w64 (x := a + 3 * i + 1 + 1) (by omega) (by omega), w64 (x := a + 3 * i + 1 + 1 + 1) (by omega) (by omega)]
    refine Evs.yes e2 (Evs.yes (by omega) ?_)
    rw [show a + 3 * i + 1 + 1 + 1 = a + 3 * (i + 1) by omega]
    exact ih (i + 1) (by omega) (by omega) (by omega)
theorem heldRow_ev (l : List S70) (a : Int) (hl : (l.length : Int) ≤ 1073741824) (ha : 0 ≤ a) (ha' : a ≤ 1073741824) (h : MarkedR l a) : Evs (fun k => laws_heldRowS.f k l a) (fun r => r = a + 3 * l.length) := by
  unfold laws_heldRowS.f
  have := heldRow_l0 l hl a ha ha' h _ 0 rfl (by omega) (by omega)
  rwa [Int.mul_zero, Int.add_zero] at this
theorem FnExactFoldTrace_j0 (l : List S40) (w : List S70) (hg : (l.length : Int) ≤ 1048576) (sm : SmallTr (conv l)) (hw : FoldR (conv l) w) :
    Evs (fun k => laws_FnExactFoldTrace.j0 k l w w false) (fun r => r = true) := by
  have hl := hw.len
  refine Evs.step (fun k => by rw [laws_FnExactFoldTrace.j0]) (Evs.no (by simp) ?_)
  refine Evs.bind (markRow_ev w 1 (by omega) (by omega) (by omega)) (fun p ⟨p1, p2, p3⟩ => ?_)
  have held : Evs (fun k => laws_heldRowS.f k p.2 1) (fun r => r = p.1) := (heldRow_ev p.2 1 (by omega) (by omega) (by omega) p3).imp fun r hr => by rw [hr, p1, p2]
  refine Evs.bind held (fun r hr => Evs.no (by omega) (Evs.yes hr (Evs.bind (toFrame_ev l hg) (fun t ht => ?_))))
  subst ht
  refine Evs.bind (FoldTrace_ev _ sm) (fun v hv => ?_)
  have e := hv.uniq hw
  subst e
  refine Evs.bind (eqRow_ev v (by omega)) (fun c hc => Evs.yes hc ?_)
  exact Evs.bind held (fun r hr => Evs.no (by omega) (Evs.yes hr (Evs.ret rfl)))
theorem FnExactFoldTrace : ∀ (l0 : List S40), l0.length ≤ maxLen → (∀ y ∈ l0, y.f0.size ≤ maxLen ∧ (Lit.int .i64 y.f1).wf = true) → ∃ k, laws_FnExactFoldTrace.f k l0 = some true := by
  intro l hl hs
  apply Evs.done
  unfold laws_FnExactFoldTrace.f
  refine Evs.bind (szFrame_ev l 1048576 hl (fun y hy => (hs y hy).1) (by omega) (by omega)) (fun r hr => Evs.ite (fun _ => Evs.ret rfl) (fun h => ?_))
  have hg := hr.2.2 (by omega)
  have sm := conv_small hg
  refine Evs.bind (toFrame_ev l hg.1) (fun t ht => ?_)
  subst ht
  refine Evs.bind (sFoldTrace_ev _ sm) (fun w hw => Evs.bind (toFrame_ev l hg.1) (fun t ht => ?_))
  subst ht
  refine Evs.bind (FoldTrace_ev _ sm) (fun v hv => ?_)
  have e := hv.uniq hw
  subst e
  have hlen := hv.len
  refine Evs.bind (eqRow_ev v (by omega)) (fun c hc => Evs.yes hc (Evs.bind (toFrame_ev l hg.1) (fun t ht => ?_)))
  subst ht
  have hcl : ((conv l).length : Int) ≤ 1048576 := by rw [conv_length]; exact hg.1
  refine Evs.bind (eqFrame_ev _ (by omega)) (fun c hc => Evs.yes hc (Evs.bind (markFrame_ev _ 1 (by omega) (by omega) (by omega)) (fun p ⟨p1, p2, _⟩ => Evs.no (by omega) (Evs.bind (eqRow_ev v (by omega)) (fun d hd => ?_)))))
  subst hd
  exact FnExactFoldTrace_j0 l v hg.1 sm hv
end Go.Proofs.Ytimogbghkmhhgaa.Pure
