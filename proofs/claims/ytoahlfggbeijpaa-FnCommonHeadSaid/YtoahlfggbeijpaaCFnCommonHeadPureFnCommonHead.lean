/- The plain proof: what the printed functions tell. Conditions: none beyond the statement's own. -/
import Derived.Test.YtoahlfggbeijpaaCFnCommonHeadPureTrim
import Derived.Test.YtoahlfggbeijpaaCFnCommonHeadPureCommon
import Derived.Test.YtoahlfggbeijpaaCFnCommonHeadPTx11
import Derived.Test.YtoahlfggbeijpaaCFnCommonHeadPTx12
namespace Go.Proofs.Ytoahlfggbeijpaa.Pure
open Go.RowKit Go.Proofs.Ytoahlfggbeijpaa.PT Go.Proofs.YtoahlfggbeijpaaW.PrintWords Go.Proofs.YtoahlfggbeijpaaW.PrintLast
set_option linter.unusedVariables false
set_option linter.unusedSimpArgs false
theorem draw_CommonHead (l : List Int) (h : Bytes l) : Evs (fun k => spec_DrawCommonHead.f k l) (fun r => OkTr r.1 ∧ OkTr r.2) := by
  unfold spec_DrawCommonHead.f
  obtain ⟨r, h1, h2, h3⟩ := newReader_ev l h
  refine Evs.bind (Evs.const (P := fun x => x = r) h1 rfl) (fun _ e => ?_)
  subst e
  exact Evs.bind (twoTraces_ev _ _ h2 (by omega) (by omega)) (fun t ⟨t1, t2, _⟩ => Evs.ret ⟨t1, t2⟩)
theorem FnCommonHead_j0 (t u : List S48) (r : Int) (b : Bool) (ht : OkTr t) (hu : OkTr u) (hr : Common t u r) (hb : b = false → 0 ≤ r) :
    Evs (fun k => laws_FnCommonHead.j0 k t u r b) (fun y => y = true) := by
  have hl := ht.1
  have hl' := hu.1
  refine Evs.step (fun k => by rw [laws_FnCommonHead.j0]) (Evs.ite (fun h => ?_) (fun h => ?_))
  · exact Evs.bind (sCommonHead_ev t u ht.small hu.small) (fun s hs => Evs.ret (by rw [hr.uniq hs]; simp))
  · have h0 := hb (by simpa using h)
    rcases hr with ⟨⟨hv, hw⟩, hh⟩ | ⟨_, hr⟩
    case inr => omega
    have hb1 := hh.1
    refine Evs.bind (TrimTrace_ev t r ht.small) (fun a ha => Evs.bind (TrimTrace_ev u r hu.small) (fun c hc => ?_))
    rcases ha with ⟨_, ha⟩ | ⟨q, _⟩
    case inr => exact absurd hv q
    rcases hc with ⟨_, hc⟩ | ⟨q, _⟩
    case inr => exact absurd hw q
    rw [trimG_take t h0 hb1.2.1] at ha
    rw [trimG_take u h0 hb1.2.2] at hc
    refine Evs.bind (equalTrace_ev a c (by rw [ha]; simp; omega)) (fun e he => Evs.yes (he.2 (by rw [ha, hc, hh.take])) ?_)
    refine Evs.bind (CommonHead_ev u t hu.small ht.small) (fun d hd => Evs.yes (hd.uniq (.inl ⟨⟨hw, hv⟩, hh.symm⟩)) ?_)
    have last : Evs (fun k => (impl_CommonHead.f k t t).bind fun x => some (x == (t.length : Int))) (fun y => y = true) := by
      refine Evs.bind (CommonHead_ev t t ht.small ht.small) (fun x hx => Evs.ret ?_)
      rcases hx with ⟨_, hx⟩ | ⟨q, _⟩
      · rw [hx.self]; simp
      · exact absurd ⟨hv, hv⟩ q
    refine Evs.ite (fun _ => last) (fun n1 => Evs.ite (fun _ => last) (fun n2 => ?_))
    exact Evs.yes h0 (Evs.yes (by omega) (Evs.yes (by omega) (Evs.yes ((diff_iff _ _).2 (hh.2.2 (by omega) (by omega))) last)))
theorem FnCommonHead : laws_FnCommonHead.Pure := by
  intro l h0 h1 h2
  apply Evs.done
  unfold laws_FnCommonHead.f
  refine Evs.ite (fun _ => Evs.ret rfl) (fun _ => ?_)
  refine Evs.bind (draw_CommonHead l (bytes_of_wf h2)) (fun d ⟨d1, d2⟩ => Evs.bind (CommonHead_ev _ _ d1.small d2.small) (fun a ha => Evs.bind (sCommonHead_ev _ _ d1.small d2.small) (fun b hb => ?_)))
  refine Evs.ite (fun h => FnCommonHead_j0 _ _ _ _ d1 d2 ha (fun q => ?_)) (fun h => FnCommonHead_j0 _ _ _ _ d1 d2 ha (by simp))
  have : ¬ a < 0 := by simpa using q
  omega
end Go.Proofs.Ytoahlfggbeijpaa.Pure
