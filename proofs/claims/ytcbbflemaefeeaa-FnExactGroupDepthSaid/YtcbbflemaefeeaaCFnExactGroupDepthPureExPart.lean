/- The plain proof: what the printed functions tell. Conditions: none beyond the statement's own. -/
import Derived.Test.YtcbbflemaefeeaaCFnExactGroupDepthPureExClass
import Derived.Test.YtcbbflemaefeeaaCFnExactGroupDepthPureGroup
import Derived.Test.YtcbbflemaefeeaaCFnExactGroupDepthPTx2
import Derived.Test.YtcbbflemaefeeaaCFnExactGroupDepthPTx5
import Derived.Test.YtcbbflemaefeeaaCFnExactGroupDepthPTx9
namespace Go.Proofs.Ytcbbflemaefeeaa.Pure
open Go.RowKit Go.Proofs.Ytcbbflemaefeeaa.PT Go.Proofs.YtcbbflemaefeeaaW.PrintWords Go.Proofs.YtcbbflemaefeeaaW.PrintLast
set_option linter.unusedVariables false
theorem szPart_ev (e : List S53) (r : Int) (he : e.length ≤ 9223372036854775807) (h0 : 0 ≤ r) (h1 : r ≤ 1048576) : Evs (fun _ => laws_szPartS.f e r) (fun x => 0 ≤ x → (e.length : Int) ≤ 1048576) := by
  unfold laws_szPartS.f
  rw [w64 (x := r - (e.length : Int)) (by omega) (by omega)]
  exact Evs.ite (fun q => Evs.ret (fun z => by omega)) (fun q => Evs.ret (fun z => by omega))
def convP (l : List S53) : List S46 := l.map (fun y => ⟨y.f0, y.f1, y.f2, y.f3⟩)
theorem convP_length (l : List S53) : (convP l).length = l.length := by simp [convP]
theorem convP_rd (l : List S53) {i : Int} (h0 : 0 ≤ i) (h : i < (l.length : Int)) : rd_T46 (convP l) i = ⟨(rd_T53 l i).f0, (rd_T53 l i).f1, (rd_T53 l i).f2, (rd_T53 l i).f3⟩ := by
  unfold rd_T46 rd_T53
  rw [getD_nat _ _ _ (by rw [convP_length]; omega), getD_nat _ _ _ (by omega)]
  simp [convP]
theorem rdSP_set (x : List S46) (v : S46) {i j : Int} (hi : 0 ≤ i) (hj : 0 ≤ j) (hj' : j < x.length) : rd_T46 (x.set i.toNat v) j = if j = i then v else rd_T46 x j := by
  unfold rd_T46
  rw [getD_nat _ _ _ (by simp; omega), getD_nat _ _ _ (by omega), List.getElem_set]
  by_cases e : j = i
  · subst e; simp
  · rw [if_neg e, if_neg (by omega)]
theorem ext_rdSP' {x y : List S46} (hl : x.length = y.length) (h : ∀ j : Int, 0 ≤ j → j < x.length → rd_T46 x j = rd_T46 y j) : x = y := by
  refine List.ext_getElem hl fun i h1 h2 => ?_
  have := h i (by omega) (by omega)
  unfold rd_T46 at this
  rwa [Int.toNat_natCast, getD_nat _ _ _ h1, getD_nat _ _ _ h2] at this
theorem toPart_l0 (l : List S53) (hl : (l.length : Int) ≤ 1048576) : ∀ (m : Nat) (i : Int) (x : List S46), ((l.length : Int) - i).toNat = m → 0 ≤ i → i ≤ l.length → x.length = l.length →
    (∀ j : Int, 0 ≤ j → j < i → rd_T46 x j = rd_T46 (convP l) j) → Evs (fun k => laws_toPartS.l0 k l x i) (fun r => r = convP l)
  | 0, i, x, hm, h0, h1, hx, hj => Evs.step (fun k => by rw [laws_toPartS.l0]) (Evs.no (by omega) (Evs.ret (ext_rdSP' (by rw [hx, convP_length]) (fun j j0 j1 => hj j j0 (by omega)))))
  | m + 1, i, x, hm, h0, h1, hx, hj => by
    have hi : i < (l.length : Int) := by omega
    refine Evs.step (fun k => by rw [laws_toPartS.l0]) (Evs.yes hi (Evs.yes h0 ?_))
    refine Evs.bind (P := fun r => r = ((rd_T53 l i).f0, (rd_T53 l i).f1, (rd_T53 l i).f2, (rd_T53 l i).f3)) (by unfold laws_toPart.f; exact Evs.ret rfl) (fun r hr => Evs.yes (by omega) ?_)
    subst hr
    rw [w64 (x := i + 1) (by omega) (by omega)]
    refine toPart_l0 l hl m (i + 1) _ (by omega) (by omega) (by omega) (by simpa using hx) (fun j j0 j1 => ?_)
    rw [rdSP_set x _ h0 j0 (by omega)]
    by_cases e : j = i
    · rw [if_pos e, e, convP_rd l h0 hi]
    · rw [if_neg e]; exact hj j j0 (by omega)
theorem toPart_ev (l : List S53) (hl : (l.length : Int) ≤ 1048576) : Evs (fun k => laws_toPartS.f k l) (fun r => r = convP l) := by
  unfold laws_toPartS.f
  exact Evs.yes (by omega) (Evs.yes (by omega) (toPart_l0 l hl _ 0 _ rfl (by omega) (by omega) (by simp) (fun j _ _ => by omega)))
theorem eqPart_l0 (x : List S46) (hx : (x.length : Int) ≤ 1099511627776) : ∀ (m : Nat) (i : Int), ((x.length : Int) - i).toNat = m → 0 ≤ i → i ≤ x.length → Evs (fun k => laws_eqPartS.l0 k x x i) (fun r => r = true)
  | 0, i, hm, h0, h1 => Evs.step (fun k => by rw [laws_eqPartS.l0]) (Evs.no (by omega) (Evs.ret rfl))
  | m + 1, i, hm, h0, h1 => by
    refine Evs.step (fun k => by rw [laws_eqPartS.l0]) (Evs.yes (by omega) (Evs.yes h0 (Evs.yes (by omega) (Evs.bind (P := fun r => r = true) ?_ (fun r hr => Evs.yes hr ?_)))))
    · unfold laws_eqPart.f
      exact Evs.yes rfl (Evs.no (by simp) (Evs.yes rfl (Evs.yes rfl (Evs.ret rfl))))
    · rw [w64 (x := i + 1) (by omega) (by omega)]
      exact eqPart_l0 x hx m (i + 1) (by omega) (by omega) (by omega)
theorem eqPart_ev (x : List S46) (hx : (x.length : Int) ≤ 1099511627776) : Evs (fun k => laws_eqPartS.f k x x) (fun r => r = true) := by
  unfold laws_eqPartS.f
  exact Evs.yes rfl (eqPart_l0 x hx _ 0 rfl (by omega) (by omega))
end Go.Proofs.Ytcbbflemaefeeaa.Pure
