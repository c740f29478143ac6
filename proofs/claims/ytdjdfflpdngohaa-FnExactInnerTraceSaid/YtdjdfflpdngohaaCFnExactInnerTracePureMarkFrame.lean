/- The plain proof: what the printed functions tell. Conditions: none beyond the statement's own. -/
import Derived.Test.YtdjdfflpdngohaaCFnExactInnerTracePureMarks
import Derived.Test.YtdjdfflpdngohaaCFnExactInnerTracePureExFrame
import Derived.WideShapes
import Derived.Test.YtdjdfflpdngohaaCFnExactInnerTracePTx4
import Derived.Test.YtdjdfflpdngohaaCFnExactInnerTracePTx5
namespace Go.Proofs.Ytdjdfflpdngohaa.Pure
open Go.RowKit Go.Proofs.Ytdjdfflpdngohaa.PT Go.Proofs.YtdjdfflpdngohaaW.PrintWords
set_option linter.unusedVariables false
set_option linter.unusedSimpArgs false
def MarkedF (l : List S35) (a : Int) : Prop := ∀ j : Int, 0 ≤ j → j < l.length → Ev (fun k => laws_markText.f k (a + 2 * j)) (rd_T35 l j).f0 ∧ (rd_T35 l j).f1 = a + 2 * j + 1
theorem markFrame_l0 (n : Nat) (hn : (n : Int) ≤ 1073741824) (a : Int) (ha : 0 ≤ a) (ha' : a ≤ 1073741824) (m : Nat) : ∀ (i : Int) (x : List S35), ((n : Int) - i).toNat = m → 0 ≤ i → i ≤ n → x.length = n →
    (∀ j : Int, 0 ≤ j → j < i → Ev (fun k => laws_markText.f k (a + 2 * j)) (rd_T35 x j).f0 ∧ (rd_T35 x j).f1 = a + 2 * j + 1) →
    Evs (fun k => laws_markFrameS.l0 k x (a + 2 * i) i) (fun r => r.1 = a + 2 * n ∧ r.2.length = n ∧ MarkedF r.2 a) := by
  induction m with
  | zero =>
    intro i x hm h0 h1 hx hj
    exact Evs.step (fun k => by rw [laws_markFrameS.l0]) (Evs.no (by omega) (Evs.ret ⟨by simp only; omega, hx, fun j j0 j1 => hj j j0 (by simp only at j1; omega)⟩))
  | succ m ih =>
    intro i x hm h0 h1 hx hj
    obtain ⟨s, hs⟩ := markText_ev (a + 2 * i) (by omega)
    refine Evs.step (fun k => by rw [laws_markFrameS.l0]) (Evs.yes (by omega) (Evs.bind (P := fun t => t = s) ⟨s, hs, rfl⟩ (fun t ht => Evs.yes h0 ?_)))
    subst ht
    refine Evs.bind (P := fun y => y = x.set i.toNat ⟨t, (rd_T35 x i).f1⟩) (Evs.ret rfl) (fun y hy => ?_)
    have hyl : y.length = n := by rw [hy]; simpa using hx
    have hyi : rd_T35 y i = ⟨t, (rd_T35 x i).f1⟩ := by rw [hy, rdSF_set x _ h0 h0 (by omega), if_pos rfl]
    have hyj : ∀ j : Int, 0 ≤ j → j < i → rd_T35 y j = rd_T35 x j := fun j j0 j1 => by rw [hy, rdSF_set x _ h0 j0 (by omega), if_neg (by omega)]
    rw [w64 (x := i + 1) (by omega) (by omega), w64 (x := a + 2 * i + 1) (by omega) (by omega), w64 (x := a + 2 * i + 1 + 1) (by omega) (by omega), show a + 2 * i + 1 + 1 = a + 2 * (i + 1) by omega]
    refine ih (i + 1) _ (by omega) (by omega) (by omega) (by simpa using hyl) (fun j j0 j1 => ?_)
    rw [rdSF_set y _ h0 j0 (by omega)]
    by_cases e : j = i
    · subst e
      rw [if_pos rfl, hyi]
      exact ⟨hs, rfl⟩
    · rw [if_neg e, hyj j j0 (by omega)]
      exact hj j j0 (by omega)
theorem markFrame_ev (l : List S35) (a : Int) (hl : (l.length : Int) ≤ 1073741824) (ha : 0 ≤ a) (ha' : a ≤ 1073741824) : Evs (fun k => laws_markFrameS.f k l a) (fun r => r.1 = a + 2 * l.length ∧ r.2.length = l.length ∧ MarkedF r.2 a) := by
  unfold laws_markFrameS.f
  have := markFrame_l0 l.length hl a ha ha' _ 0 l rfl (by omega) (by omega) rfl (fun j _ _ => by omega)
  rwa [Int.mul_zero, Int.add_zero] at this
theorem heldFrame_l0 (l : List S35) (hl : (l.length : Int) ≤ 1073741824) (a : Int) (ha : 0 ≤ a) (ha' : a ≤ 1073741824) (h : MarkedF l a) (m : Nat) : ∀ (i : Int), ((l.length : Int) - i).toNat = m → 0 ≤ i → i ≤ l.length →
    Evs (fun k => laws_heldFrameS.l0 k l (a + 2 * i) i) (fun r => r = a + 2 * l.length) := by
  induction m with
  | zero =>
    intro i hm h0 h1
    exact Evs.step (fun k => by rw [laws_heldFrameS.l0]) (Evs.no (by omega) (Evs.ret (by omega)))
  | succ m ih =>
    intro i hm h0 h1
    obtain ⟨e1, e2⟩ := h i h0 (by omega)
    refine Evs.step (fun k => by rw [laws_heldFrameS.l0]) (Evs.yes (by omega) (Evs.yes h0 (Evs.bind (P := fun t => t = (rd_T35 l i).f0) ⟨_, e1, rfl⟩ (fun t ht => Evs.yes (by rw [ht]) ?_))))
    rw [w64 (x := i + 1) (by omega) (by omega), w64 (x := a + 2 * i + 1) (by omega) (by omega), w64 (x := a + 2 * i + 1 + 1) (by omega) (by omega)]
    refine Evs.yes e2 ?_
    rw [show a + 2 * i + 1 + 1 = a + 2 * (i + 1) by omega]
    exact ih (i + 1) (by omega) (by omega) (by omega)
theorem heldFrame_ev (l : List S35) (a : Int) (hl : (l.length : Int) ≤ 1073741824) (ha : 0 ≤ a) (ha' : a ≤ 1073741824) (h : MarkedF l a) : Evs (fun k => laws_heldFrameS.f k l a) (fun r => r = a + 2 * l.length) := by
  unfold laws_heldFrameS.f
  have := heldFrame_l0 l hl a ha ha' h _ 0 rfl (by omega) (by omega)
  rwa [Int.mul_zero, Int.add_zero] at this
end Go.Proofs.Ytdjdfflpdngohaa.Pure
