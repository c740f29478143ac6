/- The plain proof: what the printed functions tell. Conditions: none beyond the statement's own. -/
import Derived.Test.YtnoekddnacnopaaCFnBelowOfPureBelow
import Derived.Test.YtnoekddnacnopaaCFnBelowOfPTx9
import Derived.Test.YtnoekddnacnopaaCFnBelowOfPTx11
namespace Go.Proofs.Ytnoekddnacnopaa.Pure
open Go.RowKit Go.Proofs.Ytnoekddnacnopaa.PT Go.Proofs.YtnoekddnacnopaaW.PrintWords Go.Proofs.YtnoekddnacnopaaW.PrintLast
set_option linter.unusedVariables false
theorem draw_BelowOf (l : List Int) (h : Bytes l) : Evs (fun k => spec_DrawBelowOf.f k l) (fun r => OkT r.1) := by
  unfold spec_DrawBelowOf.f spec_DrawAboveOf.f
  obtain ⟨r, h1, h2, h3⟩ := newReader_ev l h
  refine Evs.bind (P := fun r => OkT r.1) (Evs.bind (Evs.const (P := fun x => x = r) h1 rfl) (fun _ e => ?_)) (fun r hr => Evs.ret hr)
  subst e
  exact Evs.bind (someTree_ev _ _ h2 (by omega) (by omega)) (fun t ⟨t1, t2, t3⟩ => Evs.bind (aClass_ev _ _ _ h2 t2 (by omega) t1) (fun _ _ => Evs.ret t1))
theorem pairwise_rd {xs : List Int} (h : xs.Pairwise (· < ·)) {i j : Int} (h0 : 0 ≤ i) (h1 : i < j) (h2 : j < xs.length) : rd xs i < rd xs j := by
  unfold rd
  rw [getD_nat _ _ _ (by omega), getD_nat _ _ _ (by omega)]
  exact List.pairwise_iff_getElem.1 h i.toNat j.toNat (by omega) (by omega) (by omega)
theorem ascends_l0 (x : List Int) (hx : (x.length : Int) ≤ 1099511627776) (hs : x.Pairwise (· < ·)) : ∀ (m : Nat) (i : Int), ((x.length : Int) - i).toNat = m → 1 ≤ i →
    Evs (fun k => laws_ascends.l0 k x i) (fun r => r = true)
  | 0, i, hm, h0 => Evs.step (fun k => by rw [laws_ascends.l0]) (Evs.no (by omega) (Evs.ret rfl))
  | m + 1, i, hm, h0 => by
    refine Evs.step (fun k => by rw [laws_ascends.l0]) (Evs.yes (by omega) ?_)
    rw [w64 (x := i - 1) (by omega) (by omega), w64 (x := i + 1) (by omega) (by omega)]
    have := pairwise_rd hs (i := i - 1) (j := i) (by omega) (by omega) (by omega)
    exact Evs.yes (by omega) (Evs.yes (by omega) (Evs.yes (by omega) (Evs.no (by omega) (ascends_l0 x hx hs m (i + 1) (by omega) (by omega)))))
theorem ascends_ev (x : List Int) (hx : (x.length : Int) ≤ 1099511627776) (hs : x.Pairwise (· < ·)) : Evs (fun k => laws_ascends.f k x) (fun r => r = true) :=
  ascends_l0 x hx hs _ 1 rfl (by omega)
theorem Below.sorted {t : List S67} {a : Int} {r : List Int} (h : Below t a r) : r.Pairwise (· < ·) := by
  rcases h with ⟨_, h⟩ | ⟨_, h⟩ <;> rw [h]
  · exact sel_sorted _ _ _
  · exact List.Pairwise.nil
theorem FnBelowOf_l0 (t : List S67) (a : Int) (r : List Int) (ht : OkT t) (hv : ValidT t) (ha : HasC t a) (hr : Below t a r) : ∀ (m : Nat) (i : Int), ((r.length : Int) - i).toNat = m → 0 ≤ i → i ≤ r.length →
    Evs (fun k => laws_FnBelowOf.l0 k a r i t) (fun b => b = true)
  | 0, i, hm, h0, h1 => by
    have sm := ht.small
    have hl := hr.len
    refine Evs.step (fun k => by rw [laws_FnBelowOf.l0]) (Evs.no (by omega) (Evs.bind (ascends_ev r (by omega) hr.sorted) (fun c hc => Evs.yes hc ?_)))
    have hmem := (hr.mem hv ha).2 (Bel.refl hv ha)
    obtain ⟨j, j0, j1, e⟩ := mem_rd.1 hmem
    have hfirst : rd r 0 = a := by
      have h2 := ((hr.mem hv ha).1 (rd_mem (xs := r) (i := 0) (by omega) (by omega))).le hv
      by_cases z : j = 0
      · rw [← z]; exact e
      · have := pairwise_rd hr.sorted (i := 0) (j := j) (by omega) (by omega) j1
        omega
    refine Evs.yes (by omega) (Evs.yes hfirst (Evs.bind (BelowOf_ev t 0 sm) (fun d hd => Evs.ret ?_)))
    have h0' : HasC t 0 := ⟨by omega, by have := ha.1; have := ha.2; omega⟩
    rcases hd with ⟨_, hd⟩ | ⟨hn, _⟩
    · have := sel_all (fun b => Bel t b 0) t.length 0 (fun x x0 x1 => Bel.root hv ⟨x0, by omega⟩)
      rw [hd, this]
      simp
    · exact absurd ⟨hv, h0'⟩ hn
  | m + 1, i, hm, h0, h1 => by
    have sm := ht.small
    have hl := hr.len
    have hi : i < (r.length : Int) := by omega
    have hx := (hr.mem hv ha).1 (rd_mem h0 hi)
    refine Evs.step (fun k => by rw [laws_FnBelowOf.l0]) (Evs.yes hi (Evs.yes h0 (Evs.bind (BelowOf_ev t (rd r i) sm) (fun d hd => ?_))))
    have hdl := hd.len
    have inner : ∀ (n : Nat) (j : Int), ((d.length : Int) - j).toNat = n → 0 ≤ j → j ≤ d.length → Evs (fun k => laws_FnBelowOf.l1 k a r i d j t) (fun b => b = true) := by
      intro n
      induction n with
      | zero =>
        intro j hn j0 j1
        refine Evs.step (fun k => by rw [laws_FnBelowOf.l1]) (Evs.no (by omega) ?_)
        rw [w64 (x := i + 1) (by omega) (by omega)]
        exact FnBelowOf_l0 t a r ht hv ha hr m (i + 1) (by omega) (by omega) (by omega)
      | succ n ih =>
        intro j hn j0 j1
        have hj : j < (d.length : Int) := by omega
        refine Evs.step (fun k => by rw [laws_FnBelowOf.l1]) (Evs.yes hj (Evs.yes j0 (Evs.bind (isIn_ev r (rd d j) (by omega)) (fun c hc => Evs.yes (hc.2 ?_) ?_))))
        · exact (hr.mem hv ha).2 (((hd.mem hv hx.hasl).1 (rd_mem j0 hj)).trans hx)
        · rw [w64 (x := j + 1) (by omega) (by omega)]
          exact ih (j + 1) (by omega) (by omega) (by omega)
    exact inner _ 0 rfl (by omega) (by omega)
theorem FnBelowOf_j0 (t : List S67) (a : Int) (r : List Int) (x : Bool) (ht : OkT t) (hr : Below t a r) (hx : x = false → r ≠ []) :
    Evs (fun k => laws_FnBelowOf.j0 k a r x t) (fun b => b = true) := by
  have hl := hr.len
  refine Evs.step (fun k => by rw [laws_FnBelowOf.j0]) (Evs.ite (fun h => ?_) (fun h => ?_))
  · refine Evs.bind (sBelowOf_ev t a ht.small) (fun s hs => Evs.bind (equalInts_ev r s (by omega)) (fun e he => Evs.ret (he.2 (hr.uniq hs))))
  · have h1 := hx (by simpa using h)
    have hr' := hr
    rcases hr with ⟨hg, hr⟩ | ⟨_, hr⟩
    · exact FnBelowOf_l0 t a r ht hg.1 hg.2 hr' _ 0 rfl (by omega) (by omega)
    · exact absurd hr h1
theorem FnBelowOf : laws_FnBelowOf.Pure := by
  intro l h0 h1 h2
  apply Evs.done
  unfold laws_FnBelowOf.f
  refine Evs.ite (fun _ => Evs.ret rfl) (fun _ => ?_)
  refine Evs.bind (draw_BelowOf l (bytes_of_wf h2)) (fun t ht => Evs.bind (BelowOf_ev _ _ ht.small) (fun a ha => Evs.bind (sBelowOf_ev _ _ ht.small) (fun b hb => Evs.bind (equalInts_ev a b (by have := ha.len; omega)) (fun c hc => ?_))))
  refine Evs.ite (fun h => ?_) (fun h => ?_)
  · exact FnBelowOf_j0 _ _ _ _ ht ha (fun q e => by rw [e] at q; simp at q)
  · exact FnBelowOf_j0 _ _ _ _ ht ha (by simp)
end Go.Proofs.Ytnoekddnacnopaa.Pure
