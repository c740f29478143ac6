/- The plain proof: what the printed functions tell. Conditions: none beyond the statement's own. -/
import Derived.Test.YthfdohjghgkciaaCFnExactValidExitsPureExClass
import Derived.Test.YthfdohjghgkciaaCFnExactValidExitsPureExits
import Derived.Test.YthfdohjghgkciaaCFnExactValidExitsPTx10
import Derived.Test.YthfdohjghgkciaaCFnExactValidExitsPTx11
import Derived.Test.YthfdohjghgkciaaCFnExactValidExitsPTx12
namespace Go.Proofs.Ythfdohjghgkciaa.Pure
open Go.RowKit Go.Proofs.Ythfdohjghgkciaa.PT Go.Proofs.YthfdohjghgkciaaW.PrintWords Go.Proofs.YthfdohjghgkciaaW.PrintLast
set_option linter.unusedVariables false
def convE (l : List S57) : List S43 := l.map (fun y => ⟨y.f0, y.f1, y.f2⟩)
theorem convE_length (l : List S57) : (convE l).length = l.length := by simp [convE]
theorem convE_rd (l : List S57) {i : Int} (h0 : 0 ≤ i) (h : i < (l.length : Int)) : rd_T43 (convE l) i = ⟨(rd_T57 l i).f0, (rd_T57 l i).f1, (rd_T57 l i).f2⟩ := by
  unfold rd_T43 rd_T57
  rw [getD_nat _ _ _ (by rw [convE_length]; omega), getD_nat _ _ _ (by omega)]
  simp [convE]
theorem rdSE_set (x : List S43) (v : S43) {i j : Int} (hi : 0 ≤ i) (hj : 0 ≤ j) (hj' : j < x.length) : rd_T43 (x.set i.toNat v) j = if j = i then v else rd_T43 x j := by
  unfold rd_T43
  rw [getD_nat _ _ _ (by simp; omega), getD_nat _ _ _ (by omega), List.getElem_set]
  by_cases e : j = i
  · subst e; simp
  · rw [if_neg e, if_neg (by omega)]
theorem ext_rdSE' {x y : List S43} (hl : x.length = y.length) (h : ∀ j : Int, 0 ≤ j → j < x.length → rd_T43 x j = rd_T43 y j) : x = y := by
  refine List.ext_getElem hl fun i h1 h2 => ?_
  have := h i (by omega) (by omega)
  unfold rd_T43 at this
  rwa [Int.toNat_natCast, getD_nat _ _ _ h1, getD_nat _ _ _ h2] at this
theorem toExit_l0 (l : List S57) (hl : (l.length : Int) ≤ 1048576) : ∀ (m : Nat) (i : Int) (x : List S43), ((l.length : Int) - i).toNat = m → 0 ≤ i → i ≤ l.length → x.length = l.length →
    (∀ j : Int, 0 ≤ j → j < i → rd_T43 x j = rd_T43 (convE l) j) → Evs (fun k => laws_toExitS.l0 k l x i) (fun r => r = convE l)
  | 0, i, x, hm, h0, h1, hx, hj => Evs.step (fun k => by rw [laws_toExitS.l0]) (Evs.no (by omega) (Evs.ret (ext_rdSE' (by rw [hx, convE_length]) (fun j j0 j1 => hj j j0 (by omega)))))
  | m + 1, i, x, hm, h0, h1, hx, hj => by
    have hi : i < (l.length : Int) := by omega
    refine Evs.step (fun k => by rw [laws_toExitS.l0]) (Evs.yes hi (Evs.yes h0 ?_))
    refine Evs.bind (P := fun r => r = ((rd_T57 l i).f0, (rd_T57 l i).f1, (rd_T57 l i).f2)) (by unfold laws_toExit.f; exact Evs.ret rfl) (fun r hr => Evs.yes (by omega) ?_)
    subst hr
    rw [w64 (x := i + 1) (by omega) (by omega)]
    refine toExit_l0 l hl m (i + 1) _ (by omega) (by omega) (by omega) (by simpa using hx) (fun j j0 j1 => ?_)
    rw [rdSE_set x _ h0 j0 (by omega)]
    by_cases e : j = i
    · rw [if_pos e, e, convE_rd l h0 hi]
    · rw [if_neg e]; exact hj j j0 (by omega)
theorem toExit_ev (l : List S57) (hl : (l.length : Int) ≤ 1048576) : Evs (fun k => laws_toExitS.f k l) (fun r => r = convE l) := by
  unfold laws_toExitS.f
  exact Evs.yes (by omega) (Evs.yes (by omega) (toExit_l0 l hl _ 0 _ rfl (by omega) (by omega) (by simp) (fun j _ _ => by omega)))
theorem eqExit_l0 (x : List S43) (hx : (x.length : Int) ≤ 1099511627776) : ∀ (m : Nat) (i : Int), ((x.length : Int) - i).toNat = m → 0 ≤ i → i ≤ x.length → Evs (fun k => laws_eqExitS.l0 k x x i) (fun r => r = true)
  | 0, i, hm, h0, h1 => Evs.step (fun k => by rw [laws_eqExitS.l0]) (Evs.no (by omega) (Evs.ret rfl))
  | m + 1, i, hm, h0, h1 => by
    refine Evs.step (fun k => by rw [laws_eqExitS.l0]) (Evs.yes (by omega) (Evs.yes h0 (Evs.yes (by omega) (Evs.bind (P := fun r => r = true) ?_ (fun r hr => Evs.yes hr ?_)))))
    · unfold laws_eqExit.f
      exact Evs.yes rfl (Evs.yes rfl (Evs.yes rfl (Evs.ret rfl)))
    · rw [w64 (x := i + 1) (by omega) (by omega)]
      exact eqExit_l0 x hx m (i + 1) (by omega) (by omega) (by omega)
theorem eqExit_ev (x : List S43) (hx : (x.length : Int) ≤ 1099511627776) : Evs (fun k => laws_eqExitS.f k x x) (fun r => r = true) := by
  unfold laws_eqExitS.f
  exact Evs.yes rfl (eqExit_l0 x hx _ 0 rfl (by omega) (by omega))
theorem FnExactValidExits : ∀ (l0 : List S78), l0.length ≤ maxLen → (∀ y ∈ l0, y.f0.size ≤ maxLen ∧ (Lit.int .i64 y.f1).wf = true) → ∀ (l1 : List S57), l1.length ≤ maxLen → (∀ y ∈ l1, (Lit.int .i64 y.f0).wf = true ∧ ((Lit.int .i64 y.f1).wf = true ∧ (Lit.int .i64 y.f2).wf = true)) → ∃ k, laws_FnExactValidExits.f k l0 l1 = some true := by
  intro l hl hs e he _
  rw [maxLen_eq] at he
  apply Evs.done
  unfold laws_FnExactValidExits.f
  refine Evs.bind (szTree_ev l 1048576 hl (fun y hy => (hs y hy).1) (by omega) (by omega)) (fun r hr => Evs.ite (fun _ => Evs.ret rfl) (fun h => ?_))
  have hg := hr.2.2 (by omega)
  have hr1 := hr.2.1
  have sm := conv_small hg
  refine Evs.bind (P := fun x => 0 ≤ x → (e.length : Int) ≤ 1048576) ?_ (fun x hx => Evs.ite (fun _ => Evs.ret rfl) (fun h' => ?_))
  · unfold laws_szExitS.f
    rw [w64 (x := r - (e.length : Int)) (by omega) (by omega)]
    exact Evs.ite (fun q => Evs.ret (fun z => by omega)) (fun q => Evs.ret (fun z => by omega))
  have hE := hx (by omega)
  refine Evs.bind (toTree_ev l hg.1) (fun t ht => Evs.bind (toExit_ev e hE) (fun u hu => ?_))
  subst ht hu
  refine Evs.bind (sValidExits_ev _ _ sm (by rw [convE_length]; omega)) (fun v hv => Evs.bind (toTree_ev l hg.1) (fun t ht => Evs.bind (toExit_ev e hE) (fun u hu => ?_)))
  subst ht hu
  refine Evs.bind (ValidExits_ev _ _ sm) (fun w hw => Evs.no ?_ (Evs.bind (toTree_ev l hg.1) (fun t ht => ?_)))
  · have : w = v := by rw [Bool.eq_iff_iff, hv, hw]
    rw [this]; simp
  subst ht
  refine Evs.bind (eqTree_ev _ (by rw [conv_length]; omega)) (fun c hc => Evs.yes hc (Evs.bind (toExit_ev e hE) (fun u hu => ?_)))
  subst hu
  exact Evs.bind (eqExit_ev _ (by rw [convE_length]; omega)) (fun c hc => Evs.yes hc (Evs.ret rfl))
end Go.Proofs.Ythfdohjghgkciaa.Pure
