/- The plain proof: what the printed functions tell. Conditions: none beyond the statement's own. -/
import Derived.Test.YtdjdfflpdngohaaCFnInnerTracePureInner
import Derived.Test.YtdjdfflpdngohaaCFnInnerTracePureLines
import Derived.Test.YtdjdfflpdngohaaCFnInnerTracePureTrim
import Derived.Test.YtdjdfflpdngohaaCFnInnerTracePureHeads
import Derived.Test.YtdjdfflpdngohaaCFnInnerTracePTx7
import Derived.Test.YtdjdfflpdngohaaCFnInnerTracePTx8
namespace Go.Proofs.Ytdjdfflpdngohaa.Pure
open Go.RowKit Go.Proofs.Ytdjdfflpdngohaa.PT Go.Proofs.YtdjdfflpdngohaaW.PrintWords Go.Proofs.YtdjdfflpdngohaaW.PrintLast
set_option linter.unusedVariables false
set_option linter.unusedSimpArgs false
theorem draw_InnerTrace (l : List Int) (h : Bytes l) : Evs (fun k => spec_DrawInnerTrace.f k l) (fun r => OkTr r.1) := by
  unfold spec_DrawInnerTrace.f
  refine Evs.bind (P := fun r => OkTr r.1) ?_ (fun r hr => Evs.ret hr)
  unfold spec_DrawLinesOf.f
  obtain ⟨r, h1, h2, h3⟩ := newReader_ev l h
  refine Evs.bind (Evs.const (P := fun x => x = r) h1 rfl) (fun _ e => ?_)
  subst e
  refine Evs.bind (someTrace_ev _ _ h2 (by omega) (by omega)) (fun t ⟨t1, t2, t3⟩ => Evs.bind (of_ev _ _ _ h2 t2 (by omega) (by simp)) (fun d _ => Evs.ret t1))
theorem lns_none (n : ByteArray) : ∀ (t : List S35), (∀ c ∈ t, c.f0.toList ≠ n.toList) → lns n t = []
  | [], _ => rfl
  | c :: t, h => by
    rw [lns, if_neg (h c (by simp))]
    exact lns_none n t (fun x hx => h x (by simp [hx]))
theorem rdSF_drop (t : List S35) (j i : Nat) : rd_T35 (t.drop j) (i : Int) = rd_T35 t ((j + i : Nat) : Int) := by
  unfold rd_T35
  rw [Int.toNat_natCast, Int.toNat_natCast, List.getD_eq_getElem?_getD, List.getD_eq_getElem?_getD, List.getElem?_drop]
theorem FnInnerTrace_j0 (t : List S35) (n : ByteArray) (r : List S35 × Bool) (b : Bool) (ht : OkTr t) (hr : InnerR t n r) (hb : b = false → r.2 = true) :
    Evs (fun k => laws_FnInnerTrace.j0 k t n r.1 r.2 r.1 r.2 b) (fun y => y = true) := by
  have hl := hr.len
  have htl := ht.1
  refine Evs.step (fun k => by rw [laws_FnInnerTrace.j0]) (Evs.ite (fun h => ?_) (fun h => ?_))
  · exact Evs.bind (equalTrace_ev r.1 r.1 (by omega)) (fun c hc => Evs.yes (hc.2 rfl) (Evs.ret (by simp)))
  · have h2 := hb (by simpa using h)
    rcases hr with ⟨hv, hr⟩ | ⟨_, hr⟩
    case inr => rw [hr] at h2; simp at h2
    unfold innerTo at hr
    cases hj : impl_InnerTrace.last n t t.length with
    | none => rw [hj] at hr; rw [hr] at h2; simp at h2
    | some j =>
      rw [hj] at hr
      obtain ⟨j1, j2, j3⟩ := last_spec n t t.length j hj
      subst hr
      simp only
      have hdl : (t.drop j).length = t.length - j := List.length_drop
      have hd0 : rd_T35 (t.drop j) 0 = rd_T35 t (j : Int) := by have := rdSF_drop t j 0; simpa using this
      refine Evs.yes (by omega) (Evs.yes (by rw [hd0]; exact j2) (Evs.bind (LinesOf_ev _ n (ht.small.drop j)) (fun d hd => ?_)))
      have hd1 : (d.length : Int) = 1 := by
        rcases hd with ⟨_, hd⟩ | ⟨q, _⟩
        case inr => exact absurd (hv.drop j) q
        have e : t.drop j = rd_T35 t (j : Int) :: t.drop (j + 1) := by
          have := drop_rdSF (t := t) (i := (j : Int)) (by omega) (by omega)
          simpa using this
        rw [hd, e, lns, if_pos j2, lns_none]
        · rfl
        · intro c hc
          obtain ⟨i, hi, rfl⟩ := List.getElem_of_mem hc
          have hi' : i < t.length - (j + 1) := by simpa using hi
          have := j3 (j + 1 + i) (by omega) (by omega)
          unfold rd_T35 at this
          rw [Int.toNat_natCast, getD_nat _ _ _ (by omega)] at this
          rw [List.getElem_drop]
          exact this
      refine Evs.yes hd1 ?_
      rw [w64 (x := -((t.drop j).length : Int)) (by omega) (by omega)]
      refine Evs.bind (TrimTrace_ev t _ ht.small) (fun u hu => ?_)
      rcases hu with ⟨_, hu⟩ | ⟨q, _⟩
      case inr => exact absurd hv q
      have e : u = t.drop j := by
        rw [hu, show -((t.drop j).length : Int) = (j : Int) - (t.length : Int) by omega, trimG_drop t (n := (j : Int)) (by omega) (by omega), Int.toNat_natCast]
      exact Evs.bind (equalTrace_ev u _ (by rw [e]; omega)) (fun c hc => Evs.ret (hc.2 e))
theorem FnInnerTrace : laws_FnInnerTrace.Pure := by
  intro l h0 h1 h2
  apply Evs.done
  unfold laws_FnInnerTrace.f
  refine Evs.ite (fun _ => Evs.ret rfl) (fun _ => ?_)
  refine Evs.bind (draw_InnerTrace l (bytes_of_wf h2)) (fun d d1 => Evs.bind (InnerTrace_ev _ _ d1.small) (fun a ha => Evs.bind (sInnerTrace_ev _ _ d1.small) (fun b hb => ?_)))
  have hl := ha.len
  have e := ha.uniq hb
  subst e
  refine Evs.bind (equalTrace_ev _ _ (by omega)) (fun c hc => Evs.yes (hc.2 rfl) (Evs.no (by simp) ?_))
  exact FnInnerTrace_j0 _ _ _ _ d1 ha (fun q => by simpa using q)
end Go.Proofs.Ytdjdfflpdngohaa.Pure
