/- The plain proof: what the printed functions tell. Conditions: none beyond the statement's own. -/
import Derived.Test.YtimogbghkmhhgaaCFnLessHeadPureWithHead
import Derived.Test.YtimogbghkmhhgaaCFnLessHeadPureCommon
import Derived.Test.YtimogbghkmhhgaaCFnLessHeadPureLess
import Derived.Test.YtimogbghkmhhgaaCFnLessHeadPTx20
namespace Go.Proofs.Ytimogbghkmhhgaa.Pure
open Go.RowKit Go.Proofs.Ytimogbghkmhhgaa.PT Go.Proofs.YtimogbghkmhhgaaW.PrintWords Go.Proofs.YtimogbghkmhhgaaW.PrintLast
set_option linter.unusedVariables false
set_option linter.unusedSimpArgs false
theorem FnLessHead_j0 (t u : List S34) (r s : List S34 × Int) (x : Bool) (ht : OkTr t) (hu : OkTr u) (hr : Less t u r) (hs : Less t u s) (hx : x = false → 0 ≤ r.2) :
    Evs (fun k => laws_FnLessHead.j0 k t u r.1 r.2 s.1 s.2 x) (fun y => y = true) := by
  have e := hr.uniq hs
  subst e
  have hl := hr.len
  have htl := ht.1
  have hul := hu.1
  refine Evs.step (fun k => by rw [laws_FnLessHead.j0]) (Evs.ite (fun h => ?_) (fun h => ?_))
  · exact Evs.bind (equalTrace_ev r.1 r.1 (by omega)) (fun c hc => Evs.yes (hc.2 rfl) (Evs.ret (by simp)))
  · have h0 := hx (by simpa using h)
    rcases hr with ⟨hg, hh, hd⟩ | ⟨_, hr⟩
    case inr => rw [hr] at h0; simp at h0
    have hb := hh.1
    have smr : SmallTr r.1 := by rw [hd]; exact ht.small.drop _
    have hrl : (r.1.length : Int) = t.length - r.2 := by rw [hd]; simp; omega
    refine Evs.bind (WithHead_ev u r.2 r.1 hu.small smr (by omega) (by omega)) (fun b hb' => ?_)
    rcases hb' with ⟨_, hb'⟩ | ⟨q, _⟩
    case inr => exact absurd ⟨⟨hg.2, by rw [hd]; exact hg.1.drop _⟩, ⟨h0, hb.2.2⟩, by omega⟩ q
    have e1 : b.1 = t := by rw [hb', ← hh.take, hd, List.take_append_drop]
    refine Evs.yes (by rw [hb']) (Evs.bind (equalTrace_ev b.1 t (by rw [e1]; omega)) (fun c hc => Evs.yes (hc.2 e1) ?_))
    refine Evs.bind (CommonHead_ev t u ht.small hu.small) (fun d hd' => Evs.ret ?_)
    rw [hd'.uniq (.inl ⟨hg, hh⟩)]
    simp
theorem FnLessHead : laws_FnLessHead.Pure := by
  intro l h0 h1 h2
  apply Evs.done
  unfold laws_FnLessHead.f
  refine Evs.ite (fun _ => Evs.ret rfl) (fun _ => ?_)
  refine Evs.bind (draw_LessHead l (bytes_of_wf h2)) (fun t ⟨ht, hu⟩ => Evs.bind (LessHead_ev _ _ ht.small hu.small) (fun r hr => Evs.bind (sLessHead_ev _ _ ht.small hu.small) (fun s hs => ?_)))
  have hl := hr.len
  refine Evs.bind (equalTrace_ev _ _ (by omega)) (fun c hc => Evs.ite (fun h => Evs.ite (fun h' => ?_) (fun h' => ?_)) (fun h => ?_))
  · refine FnLessHead_j0 _ _ r s _ ht hu hr hs (fun q => ?_)
    have : ¬ r.2 < 0 := by simpa using q
    omega
  · exact FnLessHead_j0 _ _ r s _ ht hu hr hs (by simp)
  · exact FnLessHead_j0 _ _ r s _ ht hu hr hs (by simp)
end Go.Proofs.Ytimogbghkmhhgaa.Pure
