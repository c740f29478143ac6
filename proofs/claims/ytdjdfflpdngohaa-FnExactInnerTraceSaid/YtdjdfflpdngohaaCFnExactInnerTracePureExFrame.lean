/- The plain proof: what the printed functions tell. Conditions: none beyond the statement's own. -/
import Derived.Test.YtdjdfflpdngohaaCFnExactInnerTracePureTrace
import Derived.Test.YtdjdfflpdngohaaCFnExactInnerTracePTx2
import Derived.Test.YtdjdfflpdngohaaCFnExactInnerTracePTx4
namespace Go.Proofs.Ytdjdfflpdngohaa.Pure
open Go.RowKit Go.Proofs.Ytdjdfflpdngohaa.PT Go.Proofs.YtdjdfflpdngohaaW.PrintWords
set_option linter.unusedVariables false
set_option linter.unusedSimpArgs false
theorem maxLen_eq : maxLen = 9223372036854775807 := by decide
theorem rdSX_mem {t : List S41} {i : Int} (h0 : 0 ≤ i) (h : i < (t.length : Int)) : rd_T41 t i ∈ t := by
  unfold rd_T41; rw [getD_nat _ _ _ (by omega)]; exact List.getElem_mem _
theorem szFrame_l0 (l : List S41) (hl : (l.length : Int) ≤ 1048576) (hs : ∀ y ∈ l, y.f0.size ≤ maxLen) : ∀ (m : Nat) (i a : Int), ((l.length : Int) - i).toNat = m → 0 ≤ i → i ≤ l.length → 0 ≤ a → a ≤ 1048576 →
    Evs (fun k => laws_szFrameS.l0 k l a i) (fun r => -1 ≤ r ∧ r ≤ 1048576 ∧ (0 ≤ r → ∀ j : Int, i ≤ j → j < l.length → (rd_T41 l j).f0.size ≤ 1048576))
  | 0, i, a, hm, h0, h1, ha, ha' => Evs.step (fun k => by rw [laws_szFrameS.l0]) (Evs.no (by omega) (Evs.ret ⟨by omega, by omega, fun _ j j0 j1 => by omega⟩))
  | m + 1, i, a, hm, h0, h1, ha, ha' => by
    have hi : i < (l.length : Int) := by omega
    have hz := hs _ (rdSX_mem h0 hi)
    rw [maxLen_eq] at hz
    refine Evs.step (fun k => by rw [laws_szFrameS.l0]) (Evs.yes hi (Evs.yes h0 ?_))
    refine Evs.bind (P := fun r => (r = -1 ∨ (0 ≤ r ∧ r = a - (rd_T41 l i).f0.size))) ?_ (fun r hr => Evs.ite (fun h => Evs.ret ⟨by omega, by omega, fun q => by omega⟩) (fun h => ?_))
    · unfold laws_szFrame.f
      rw [w64 (x := a - ((rd_T41 l i).f0.size : Int)) (by omega) (by omega)]
      exact Evs.ite (fun h => Evs.ret (.inl rfl)) (fun h => Evs.ret (.inr ⟨by omega, rfl⟩))
    · obtain ⟨r0, r1⟩ : 0 ≤ r ∧ r = a - (rd_T41 l i).f0.size := by omega
      rw [w64 (x := i + 1) (by omega) (by omega)]
      refine (szFrame_l0 l hl hs m (i + 1) r (by omega) (by omega) (by omega) r0 (by omega)).imp fun q ⟨q1, q2, q3⟩ => ⟨q1, q2, fun q0 => from_here (P := fun j => (rd_T41 l j).f0.size ≤ 1048576) (by omega) (q3 q0)⟩
theorem szFrame_ev (l : List S41) (a : Int) (hl : l.length ≤ maxLen) (hs : ∀ y ∈ l, y.f0.size ≤ maxLen) (ha : 0 ≤ a) (ha' : a ≤ 1048576) :
    Evs (fun k => laws_szFrameS.f k l a) (fun r => -1 ≤ r ∧ r ≤ 1048576 ∧ (0 ≤ r → (l.length : Int) ≤ 1048576 ∧ ∀ y ∈ l, y.f0.size ≤ 1048576)) := by
  rw [maxLen_eq] at hl
  unfold laws_szFrameS.f
  rw [w64 (x := a - (l.length : Int)) (by omega) (by omega)]
  refine Evs.ite (fun h => Evs.ret ⟨by omega, by omega, fun q => by omega⟩) (fun h => ?_)
  refine (szFrame_l0 l (by omega) hs _ 0 _ rfl (by omega) (by omega) (by omega) (by omega)).imp fun r ⟨r1, r2, r3⟩ => ⟨r1, r2, fun r0 => ⟨by omega, fun y hy => ?_⟩⟩
  obtain ⟨i, hi, rfl⟩ := List.getElem_of_mem hy
  have := r3 r0 i (by omega) (by omega)
  unfold rd_T41 at this
  rwa [Int.toNat_natCast, getD_nat _ _ _ hi] at this
def conv (l : List S41) : List S35 := l.map (fun y => ⟨y.f0, y.f1⟩)
theorem conv_length (l : List S41) : (conv l).length = l.length := by simp [conv]
theorem conv_rd (l : List S41) {i : Int} (h0 : 0 ≤ i) (h : i < (l.length : Int)) : rd_T35 (conv l) i = ⟨(rd_T41 l i).f0, (rd_T41 l i).f1⟩ := by
  unfold rd_T35 rd_T41
  rw [getD_nat _ _ _ (by rw [conv_length]; omega), getD_nat _ _ _ (by omega)]
  simp [conv]
theorem rdSF_set (x : List S35) (v : S35) {i j : Int} (hi : 0 ≤ i) (hj : 0 ≤ j) (hj' : j < x.length) : rd_T35 (x.set i.toNat v) j = if j = i then v else rd_T35 x j := by
  unfold rd_T35
  rw [getD_nat _ _ _ (by simp; omega), getD_nat _ _ _ (by omega), List.getElem_set]
  by_cases e : j = i
  · subst e; simp
  · rw [if_neg e, if_neg (by omega)]
theorem ext_rdSF' {x y : List S35} (hl : x.length = y.length) (h : ∀ j : Int, 0 ≤ j → j < x.length → rd_T35 x j = rd_T35 y j) : x = y := by
  refine List.ext_getElem hl fun i h1 h2 => ?_
  have := h i (by omega) (by omega)
  unfold rd_T35 at this
  rwa [Int.toNat_natCast, getD_nat _ _ _ h1, getD_nat _ _ _ h2] at this
theorem toFrame_l0 (l : List S41) (hl : (l.length : Int) ≤ 1048576) : ∀ (m : Nat) (i : Int) (x : List S35), ((l.length : Int) - i).toNat = m → 0 ≤ i → i ≤ l.length → x.length = l.length →
    (∀ j : Int, 0 ≤ j → j < i → rd_T35 x j = rd_T35 (conv l) j) → Evs (fun k => laws_toFrameS.l0 k l x i) (fun r => r = conv l)
  | 0, i, x, hm, h0, h1, hx, hj => Evs.step (fun k => by rw [laws_toFrameS.l0]) (Evs.no (by omega) (Evs.ret (ext_rdSF' (by rw [hx, conv_length]) (fun j j0 j1 => hj j j0 (by omega)))))
  | m + 1, i, x, hm, h0, h1, hx, hj => by
    have hi : i < (l.length : Int) := by omega
    refine Evs.step (fun k => by rw [laws_toFrameS.l0]) (Evs.yes hi (Evs.yes h0 ?_))
    refine Evs.bind (P := fun r => r = ((rd_T41 l i).f0, (rd_T41 l i).f1)) (by unfold laws_toFrame.f; exact Evs.ret rfl) (fun r hr => Evs.yes (by omega) ?_)
    subst hr
    rw [w64 (x := i + 1) (by omega) (by omega)]
    refine toFrame_l0 l hl m (i + 1) _ (by omega) (by omega) (by omega) (by simpa using hx) (fun j j0 j1 => ?_)
    rw [rdSF_set x _ h0 j0 (by omega)]
    by_cases e : j = i
    · rw [if_pos e, e, conv_rd l h0 hi]
    · rw [if_neg e]; exact hj j j0 (by omega)
theorem toFrame_ev (l : List S41) (hl : (l.length : Int) ≤ 1048576) : Evs (fun k => laws_toFrameS.f k l) (fun r => r = conv l) := by
  unfold laws_toFrameS.f
  exact Evs.yes (by omega) (Evs.yes (by omega) (toFrame_l0 l hl _ 0 _ rfl (by omega) (by omega) (by simp) (fun j _ _ => by omega)))
theorem eqFrame_l0 (x : List S35) (hx : (x.length : Int) ≤ 1099511627776) : ∀ (m : Nat) (i : Int), ((x.length : Int) - i).toNat = m → 0 ≤ i → i ≤ x.length → Evs (fun k => laws_eqFrameS.l0 k x x i) (fun r => r = true)
  | 0, i, hm, h0, h1 => Evs.step (fun k => by rw [laws_eqFrameS.l0]) (Evs.no (by omega) (Evs.ret rfl))
  | m + 1, i, hm, h0, h1 => by
    refine Evs.step (fun k => by rw [laws_eqFrameS.l0]) (Evs.yes (by omega) (Evs.yes h0 (Evs.yes (by omega) (Evs.bind (P := fun r => r = true) ?_ (fun r hr => Evs.yes hr ?_)))))
    · unfold laws_eqFrame.f
      exact Evs.yes rfl (Evs.yes rfl (Evs.ret rfl))
    · rw [w64 (x := i + 1) (by omega) (by omega)]
      exact eqFrame_l0 x hx m (i + 1) (by omega) (by omega) (by omega)
theorem eqFrame_ev (x : List S35) (hx : (x.length : Int) ≤ 1099511627776) : Evs (fun k => laws_eqFrameS.f k x x) (fun r => r = true) := by
  unfold laws_eqFrameS.f
  exact Evs.yes rfl (eqFrame_l0 x hx _ 0 rfl (by omega) (by omega))
theorem conv_small {l : List S41} (h : (l.length : Int) ≤ 1048576 ∧ ∀ y ∈ l, y.f0.size ≤ 1048576) : SmallTr (conv l) := by
  refine ⟨by rw [conv_length]; omega, fun c hc => ?_⟩
  simp only [conv, List.mem_map] at hc
  obtain ⟨y, hy, rfl⟩ := hc
  have := h.2 y hy
  simp only
  omega
end Go.Proofs.Ytdjdfflpdngohaa.Pure
