/- The plain proof: what the printed functions tell. Conditions: none beyond the statement's own. -/
import Derived.Test.YtlibkefnlfcakaaCFnExactFirstCatchPureExClass
import Derived.Test.YtlibkefnlfcakaaCFnExactFirstCatchPureMarks
import Derived.Test.YtlibkefnlfcakaaCFnExactFirstCatchPureFnFirstCatch
import Derived.Test.YtlibkefnlfcakaaCFnExactFirstCatchPTx18
namespace Go.Proofs.Ytlibkefnlfcakaa.Pure
open Go.RowKit Go.Proofs.Ytlibkefnlfcakaa.PT Go.Proofs.YtlibkefnlfcakaaW.PrintWords Go.Proofs.YtlibkefnlfcakaaW.PrintLast
set_option linter.unusedVariables false
theorem rd_setI (x : List Int) (v : Int) {i j : Int} (hi : 0 ≤ i) (hj : 0 ≤ j) (hj' : j < x.length) : rd (x.set i.toNat v) j = if j = i then v else rd x j := by
  unfold rd
  rw [getD_nat _ _ _ (by simp; omega), getD_nat _ _ _ (by omega), List.getElem_set]
  by_cases e : j = i
  · subst e; simp
  · rw [if_neg e, if_neg (by omega)]
theorem toInt_l0 (l : List Int) (hl : (l.length : Int) ≤ 1048576) (m : Nat) : ∀ (i : Int) (x : List Int), ((l.length : Int) - i).toNat = m → 0 ≤ i → i ≤ l.length → x.length = l.length →
    (∀ j : Int, 0 ≤ j → j < i → rd x j = rd l j) → Evs (fun k => laws_toIntS.l0 k l x i) (fun r => r = l) := by
  induction m with
  | zero =>
    intro i x hm h0 h1 hx hj
    exact Evs.step (fun k => by rw [laws_toIntS.l0]) (Evs.no (by omega) (Evs.ret (ext_rd hx (fun j j0 j1 => hj j j0 (by omega)))))
  | succ m ih =>
    intro i x hm h0 h1 hx hj
    have hi : i < (l.length : Int) := by omega
    refine Evs.step (fun k => by rw [laws_toIntS.l0]) (Evs.yes hi (Evs.yes h0 (Evs.yes (by omega) ?_)))
    rw [w64 (x := i + 1) (by omega) (by omega)]
    refine ih (i + 1) _ (by omega) (by omega) (by omega) (by simpa using hx) (fun j j0 j1 => ?_)
    rw [rd_setI x (rd l i) h0 j0 (by omega)]
    by_cases e : j = i
    · rw [if_pos e, e]
    · rw [if_neg e]; exact hj j j0 (by omega)
theorem toInt_ev (l : List Int) (hl : (l.length : Int) ≤ 1048576) : Evs (fun k => laws_toIntS.f k l) (fun r => r = l) := by
  unfold laws_toIntS.f
  exact Evs.yes (by omega) (Evs.yes (by omega) (toInt_l0 l hl _ 0 _ rfl (by omega) (by omega) (by simp) (fun j _ _ => by omega)))
theorem FnExactFirstCatch : ∀ (l0 : List S90), l0.length ≤ maxLen → (∀ y ∈ l0, y.f0.size ≤ maxLen ∧ (Lit.int .i64 y.f1).wf = true) → ∀ (l1 : List Int), l1.length ≤ maxLen → (∀ y ∈ l1, (Lit.int .i64 y).wf = true) → ∀ (a2 : Int), (Lit.int .i64 a2).wf = true → ∃ k, laws_FnExactFirstCatch.f k l0 l1 a2 = some true := by
  intro l hl hs c _ _ a _
  apply Evs.done
  unfold laws_FnExactFirstCatch.f
  refine Evs.ite (fun _ => Evs.ret rfl) (fun hc => ?_)
  refine Evs.bind (szTree_ev l 1048576 hl (fun y hy => (hs y hy).1) (by omega) (by omega)) (fun r hr => Evs.ite (fun _ => Evs.ret rfl) (fun h => ?_))
  have hg := hr.2.2 (by omega)
  have sm := conv_small hg
  have hc' : (c.length : Int) ≤ 1048576 := by omega
  refine Evs.bind (toTree_ev l hg.1) (fun t ht => Evs.bind (toInt_ev c hc') (fun d hd => ?_))
  subst ht hd
  refine Evs.bind (sFirstCatch_ev _ _ a sm (by omega)) (fun v hv => Evs.bind (toTree_ev l hg.1) (fun t ht => Evs.bind (toInt_ev _ hc') (fun e he => ?_)))
  subst ht he
  refine Evs.bind (FirstCatch_ev _ _ a sm) (fun w hw => Evs.yes (hw.uniq hv) (Evs.bind (toTree_ev l hg.1) (fun t ht => ?_)))
  subst ht
  refine Evs.bind (eqTree_ev _ (by rw [conv_length]; omega)) (fun b hb => Evs.yes hb (Evs.bind (toInt_ev _ hc') (fun e he => ?_)))
  subst he
  exact Evs.bind (eqInt_ev _ (by omega)) (fun b hb => Evs.yes hb (Evs.ret rfl))
end Go.Proofs.Ytlibkefnlfcakaa.Pure
