/- The plain proof: what the printed functions tell. Conditions: none beyond the statement's own. -/
import Derived.Test.YtimogbghkmhhgaaCFnCallFromPureCallFrom
import Derived.Test.YtimogbghkmhhgaaCFnCallFromPureTrim
import Derived.Test.YtimogbghkmhhgaaCFnCallFromPureHeads
import Derived.Test.YtimogbghkmhhgaaCFnCallFromPTx7
import Derived.Test.YtimogbghkmhhgaaCFnCallFromPTx9
namespace Go.Proofs.Ytimogbghkmhhgaa.Pure
open Go.RowKit Go.Proofs.Ytimogbghkmhhgaa.PT Go.Proofs.YtimogbghkmhhgaaW.PrintWords Go.Proofs.YtimogbghkmhhgaaW.PrintLast
set_option linter.unusedVariables false
set_option linter.unusedSimpArgs false
theorem draw_CallFrom (l : List Int) (h : Bytes l) : Evs (fun k => spec_DrawCallFrom.f k l) (fun r => OkTr r.1 ∧ r.2.1.size ≤ 100) := by
  unfold spec_DrawCallFrom.f
  obtain ⟨r, h1, h2, h3⟩ := newReader_ev l h
  refine Evs.bind (Evs.const (P := fun x => x = r) h1 rfl) (fun _ e => ?_)
  subst e
  refine Evs.bind (aFrame_ev _ _ h2 (by omega) (by omega)) (fun f ⟨f1, f2⟩ => Evs.bind (pick_ev _ _ 12 h2 (by omega) (by omega)) (fun a ⟨a1, _, _⟩ => Evs.ite (fun _ => ?_) (fun _ => ?_)))
  · exact Evs.bind (someTrace_ev _ _ h2 (by omega) (by omega)) (fun t ⟨t1, _⟩ => Evs.ret ⟨t1, f1.1⟩)
  · exact Evs.bind (someTrace_ev _ _ h2 (by omega) (by omega)) (fun t ⟨t1, _⟩ => Evs.ret ⟨t1, f1.1⟩)
theorem FnCallFrom_j0 (t : List S34) (f : S34) (r s : List S34 × Bool) (x : Bool) (ht : OkTr t) (hf : f.f0.size ≤ 100) (hr : CallR t f r) (hs : CallR t f s) (hx : x = false → r.2 = true) :
    Evs (fun k => laws_FnCallFrom.j0 k t r.1 r.2 s.1 s.2 x f.f0 f.f1) (fun y => y = true) := by
  have e := hr.uniq hs
  subst e
  have hl := hr.len
  have htl := ht.1
  refine Evs.step (fun k => by rw [laws_FnCallFrom.j0]) (Evs.ite (fun h => ?_) (fun h => ?_))
  · exact Evs.bind (equalTrace_ev r.1 r.1 (by omega)) (fun c hc => Evs.yes (hc.2 rfl) (Evs.ret (by simp)))
  · have h0 := hx (by simpa using h)
    rcases hr with ⟨⟨hv, hw⟩, hr⟩ | ⟨_, hr⟩
    case inr => rw [hr] at h0; simp at h0
    have e1 : r.1 = f :: t := by rw [hr]
    have sm : SmallTr (f :: t) := ht.small.cons (by omega) (by omega)
    have hl1 : ((f :: t).length : Int) = t.length + 1 := by simp
    rw [e1, w64 (x := (t.length : Int) + 1) (by omega) (by omega), w64 (x := -(t.length : Int)) (by omega) (by omega)]
    have e2 : rd_T34 (f :: t) 0 = f := rfl
    rw [e2]
    refine Evs.yes (by omega) (Evs.yes (by simp) (Evs.yes hl1 (Evs.bind (TrimTrace_ev _ 1 sm) (fun a ha => ?_))))
    rcases ha with ⟨_, ha⟩ | ⟨q, _⟩
    case inr => exact absurd hw q
    rw [trimG_take _ (by omega) (by omega)] at ha
    have ha : a = [f] := by rw [ha]; rfl
    refine Evs.bind (equalTrace_ev a [f] (by rw [ha]; simp)) (fun b hb => Evs.yes (hb.2 ha) (Evs.ite (fun _ => Evs.ret rfl) (fun hz => ?_)))
    refine Evs.bind (TrimTrace_ev _ _ sm) (fun c hc => ?_)
    rcases hc with ⟨_, hc⟩ | ⟨q, _⟩
    case inr => exact absurd hw q
    have e3 : -(t.length : Int) = 1 - ((f :: t).length : Int) := by omega
    rw [e3, trimG_drop _ (by omega) (by omega)] at hc
    have hc : c = t := by rw [hc]; rfl
    exact Evs.bind (equalTrace_ev c t (by rw [hc]; omega)) (fun d hd => Evs.ret (hd.2 hc))
theorem FnCallFrom : laws_FnCallFrom.Pure := by
  intro l h0 h1 h2
  apply Evs.done
  unfold laws_FnCallFrom.f
  refine Evs.ite (fun _ => Evs.ret rfl) (fun _ => ?_)
  refine Evs.bind (draw_CallFrom l (bytes_of_wf h2)) (fun d ⟨d1, d2⟩ => ?_)
  have hd := d1.1
  refine Evs.bind (CallFrom_ev d.1 ⟨d.2.1, d.2.2⟩ d1.small (by omega) (by simp only; omega)) (fun a ha => Evs.bind (sCallFrom_ev d.1 ⟨d.2.1, d.2.2⟩ d1.small (by omega) (by simp only; omega)) (fun b hb => ?_))
  have hl := ha.len
  refine Evs.bind (equalTrace_ev _ _ (by omega)) (fun c hc => Evs.ite (fun h => Evs.ite (fun h' => ?_) (fun h' => ?_)) (fun h => ?_))
  · exact FnCallFrom_j0 _ ⟨d.2.1, d.2.2⟩ a b _ d1 d2 ha hb (by simp)
  · exact FnCallFrom_j0 _ ⟨d.2.1, d.2.2⟩ a b _ d1 d2 ha hb (fun q => by simpa using q)
  · exact FnCallFrom_j0 _ ⟨d.2.1, d.2.2⟩ a b _ d1 d2 ha hb (by simp)
end Go.Proofs.Ytimogbghkmhhgaa.Pure
