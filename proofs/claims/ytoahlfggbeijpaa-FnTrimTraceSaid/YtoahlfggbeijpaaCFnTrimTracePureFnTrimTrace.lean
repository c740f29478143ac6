/- The plain proof: what the printed functions tell. Conditions: none beyond the statement's own. -/
import Derived.Test.YtoahlfggbeijpaaCFnTrimTracePureTrim
import Derived.Test.YtoahlfggbeijpaaCFnTrimTracePureHeads
import Derived.Test.YtoahlfggbeijpaaCFnTrimTracePTx6
import Derived.Test.YtoahlfggbeijpaaCFnTrimTracePTx7
namespace Go.Proofs.Ytoahlfggbeijpaa.Pure
open Go.RowKit Go.Proofs.Ytoahlfggbeijpaa.PT Go.Proofs.YtoahlfggbeijpaaW.PrintWords Go.Proofs.YtoahlfggbeijpaaW.PrintLast
set_option linter.unusedVariables false
set_option linter.unusedSimpArgs false
theorem draw_TrimTrace (l : List Int) (h : Bytes l) : Evs (fun k => spec_DrawTrimTrace.f k l) (fun r => OkTr r.1 ∧ -20 ≤ r.2 ∧ r.2 ≤ 20) := by
  unfold spec_DrawTrimTrace.f
  obtain ⟨r, h1, h2, h3⟩ := newReader_ev l h
  refine Evs.bind (Evs.const (P := fun x => x = r) h1 rfl) (fun _ e => ?_)
  subst e
  refine Evs.bind (someTrace_ev _ _ h2 (by omega) (by omega)) (fun t ⟨t1, t2, t3⟩ => Evs.bind (one_ev _ _ _ h2 t2 (by omega) (by simp)) (fun d ⟨d1, d2⟩ => Evs.ret ⟨t1, ?_⟩))
  simp only [List.mem_cons, List.not_mem_nil, or_false] at d2
  simp only
  omega
theorem FnTrimTrace_j1 (t : List S48) (n : Int) (r : List S48) (b : Bool) (ht : OkTr t) (hv : ValidTr t) (hr : r = impl_TrimTrace.g n t) (hb : b = false → 0 ≤ n ∧ n < t.length) (hn : -20 ≤ n ∧ n ≤ 20) :
    Evs (fun k => laws_FnTrimTrace.j1 k t n r b) (fun y => y = true) := by
  have hl := ht.1
  have hrl := trimG_len t n
  rw [← hr] at hrl
  refine Evs.step (fun k => by rw [laws_FnTrimTrace.j1]) (Evs.ite (fun h => Evs.ret (decide_eq_true (by omega))) (fun h => ?_))
  obtain ⟨g1, g2⟩ := hb (by simpa using h)
  rw [w64 (x := n - (t.length : Int)) (by omega) (by omega)]
  refine Evs.bind (TrimTrace_ev t _ ht.small) (fun u hu => ?_)
  rcases hu with ⟨_, hu⟩ | ⟨hu, _⟩
  case inr => exact absurd hv hu
  rw [trimG_drop t g1 g2] at hu
  rw [trimG_take t g1 (by omega)] at hr
  have hul : u.length ≤ 12 := by rw [hu]; simp; omega
  refine Evs.yes (by rw [hr]; simp; omega) (Evs.bind (P := fun y => ([] : List S48) = y) (Evs.ret rfl) (fun y hy => ?_))
  subst hy
  refine Evs.yes (by simp; omega) (Evs.bind (P := fun y => r = y) (Evs.ret rfl) (fun y hy => ?_))
  subst hy
  refine Evs.yes (by omega) (Evs.bind (equalTrace_ev _ t (by simp; omega)) (fun c hc => Evs.ret (hc.2 ?_)))
  rw [hr, hu, List.take_append_drop]
theorem FnTrimTrace_j0 (t : List S48) (n : Int) (r : List S48) (b : Bool) (ht : OkTr t) (hr : TrimR t n r) (hb : b = false → ValidTr t) (hn : -20 ≤ n ∧ n ≤ 20) :
    Evs (fun k => laws_FnTrimTrace.j0 k t n r b) (fun y => y = true) := by
  have hl := hr.len
  refine Evs.step (fun k => by rw [laws_FnTrimTrace.j0]) (Evs.ite (fun h => ?_) (fun h => ?_))
  · exact Evs.bind (sTrimTrace_ev t n ht.small) (fun s hs => Evs.bind (equalTrace_ev r s (by omega)) (fun c hc => Evs.ret (hc.2 (hr.uniq hs))))
  · have hv := hb (by simpa using h)
    rcases hr with ⟨_, hr⟩ | ⟨hu, _⟩
    case inr => exact absurd hv hu
    refine Evs.ite (fun h1 => FnTrimTrace_j1 t n r true ht hv hr (fun q => by simp at q) hn) (fun h1 => FnTrimTrace_j1 t n r _ ht hv hr (fun q => ?_) hn)
    have : ¬ n ≥ (t.length : Int) := by simpa using q
    exact ⟨by omega, by omega⟩
theorem FnTrimTrace : laws_FnTrimTrace.Pure := by
  intro l h0 h1 h2
  apply Evs.done
  unfold laws_FnTrimTrace.f
  refine Evs.ite (fun _ => Evs.ret rfl) (fun _ => ?_)
  refine Evs.bind (draw_TrimTrace l (bytes_of_wf h2)) (fun d ⟨d1, d2⟩ => Evs.bind (TrimTrace_ev _ _ d1.small) (fun a ha => Evs.bind (sTrimTrace_ev _ _ d1.small) (fun b hb => ?_)))
  have hl := ha.len
  refine Evs.bind (equalTrace_ev _ _ (by omega)) (fun c hc => Evs.ite (fun h => ?_) (fun h => FnTrimTrace_j0 _ _ _ _ d1 ha (by simp) d2))
  exact Evs.bind (ValidTrace_ev _ d1.small) (fun v hv => FnTrimTrace_j0 _ _ _ _ d1 ha (fun q => hv.1 (by simpa using q)) d2)
end Go.Proofs.Ytoahlfggbeijpaa.Pure
