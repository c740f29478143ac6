/- The plain proof: what the printed functions tell. Conditions: none beyond the statement's own. -/
import Derived.Test.YtoahlfggbeijpaaCFnLinesOfPureWLines
import Derived.Test.YtoahlfggbeijpaaCFnLinesOfPureWHide
import Derived.WideShapes
import Derived.Test.YtoahlfggbeijpaaCFnLinesOfPWx3
import Derived.Test.YtoahlfggbeijpaaCFnLinesOfPWx4
namespace Go.Proofs.Ytoahlfggbeijpaa.Pure
open Go.RowKit Go.Proofs.Ytoahlfggbeijpaa.PW Go.Proofs.YtoahlfggbeijpaaW.PrintWords Go.Proofs.YtoahlfggbeijpaaW.PrintLast
set_option linter.unusedVariables false
set_option linter.unusedSimpArgs false
theorem equalInts_l0 (x y : List Int) (hx : (x.length : Int) ≤ 1099511627776) (hl : x.length = y.length) (m : Nat) : ∀ i : Int, ((x.length : Int) - i).toNat = m → 0 ≤ i → i ≤ x.length → Evs (fun k => laws_equalInts.l0 k x y i) (fun r => x = y → r = true) := by
  induction m with
  | zero =>
    intro i hm h0 h1
    exact Evs.step (fun k => by rw [laws_equalInts.l0]) (Evs.no (by omega) (Evs.ret (fun _ => rfl)))
  | succ m ih =>
    intro i hm h0 h1
    refine Evs.step (fun k => by rw [laws_equalInts.l0]) (Evs.yes (by omega) (Evs.yes h0 (Evs.yes (by omega) ?_)))
    rw [w64 (x := i + 1) (by omega) (by omega)]
    exact Evs.ite (fun _ => ih (i + 1) (by omega) (by omega) (by omega)) (fun h => Evs.ret (fun q => absurd (by rw [q]) h))
theorem equalInts_ev (x : List Int) (hx : (x.length : Int) ≤ 1099511627776) : Evs (fun k => laws_equalInts.f k x x) (fun r => r = true) := by
  unfold laws_equalInts.f
  exact Evs.yes rfl ((equalInts_l0 x x hx rfl _ 0 rfl (by omega) (by omega)).imp fun r hr => hr rfl)
theorem draw_LinesOf (l : List Int) (h : Bytes l) : Evs (fun k => spec_DrawLinesOf.f k l) (fun r => OkTr r.1) := by
  unfold spec_DrawLinesOf.f
  obtain ⟨r, h1, h2, h3⟩ := newReader_ev l h
  refine Evs.bind (Evs.const (P := fun x => x = r) h1 rfl) (fun _ e => ?_)
  subst e
  refine Evs.bind (someTrace_ev _ _ h2 (by omega) (by omega)) (fun t ⟨t1, t2, t3⟩ => Evs.bind (of_ev _ _ _ h2 t2 (by omega) (by simp)) (fun d _ => Evs.ret t1))
theorem lns_hid (n : ByteArray) : ∀ t : List S48, (lns n t).length + (hid [n] t).length = t.length
  | [] => rfl
  | c :: t => by
    have := lns_hid n t
    rw [hid_cons]
    unfold lns
    have e : hasN [n] c.f0 = decide (n.toList = c.f0.toList) := by simp [hasN]
    rw [e]
    by_cases h : c.f0.toList = n.toList
    · rw [if_pos h, if_pos (decide_eq_true h.symm)]; simp; omega
    · rw [if_neg h, if_neg (by simpa using fun q => h q.symm)]; simp; omega
theorem FnLinesOf_j0 (t : List S48) (n : ByteArray) (r : List Int) (b : Bool) (ht : OkTr t) (hr : LinesR t n r) (hb : b = false → ValidTr t) : Evs (fun k => laws_FnLinesOf.j0 k t n r b) (fun y => y = true) := by
  have hl := hr.len
  refine Evs.step (fun k => by rw [laws_FnLinesOf.j0]) (Evs.ite (fun h => ?_) (fun h => ?_))
  · refine Evs.bind (sLinesOf_ev t n ht.small) (fun s hs => ?_)
    have e := hr.uniq hs
    subst e
    exact Evs.bind (equalInts_ev r (by omega)) (fun c hc => Evs.ret hc)
  · have hv := hb (by simpa using h)
    refine Evs.bind (HideFuncs_ev t [n] ht.small (by simp)) (fun u hu => Evs.ret ?_)
    rcases hr with ⟨_, hr⟩ | ⟨q, _⟩
    case inr => exact absurd hv q
    rcases hu with ⟨_, hu⟩ | ⟨q, _⟩
    case inr => exact absurd hv q
    have hv1 := hv.1
    have := lns_hid n t
    rw [hr, hu, beq_iff_eq, w64 (by omega) (by omega)]
    omega
theorem FnLinesOf : laws_FnLinesOf.Pure := by
  intro l h0 h1 h2
  apply Evs.done
  unfold laws_FnLinesOf.f
  refine Evs.ite (fun _ => Evs.ret rfl) (fun _ => ?_)
  refine Evs.bind (draw_LinesOf l (bytes_of_wf h2)) (fun d d1 => Evs.bind (LinesOf_ev _ _ d1.small) (fun a ha => Evs.bind (sLinesOf_ev _ _ d1.small) (fun b hb => ?_)))
  have hl := ha.len
  have e := ha.uniq hb
  subst e
  refine Evs.bind (equalInts_ev _ (by omega)) (fun c hc => Evs.yes hc ?_)
  exact Evs.bind (ValidTrace_ev _ d1.small) (fun v hv => FnLinesOf_j0 _ _ _ _ d1 ha (fun q => hv.1 (by simpa using q)))
end Go.Proofs.Ytoahlfggbeijpaa.Pure
