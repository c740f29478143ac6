/- The plain proof: what the printed functions tell. Conditions: none beyond the statement's own. -/
import Derived.Test.YtlibkefnlfcakaaCFnFirstCatchPureCatches
import Derived.Test.YtlibkefnlfcakaaCFnFirstCatchPTx17
import Derived.Test.YtlibkefnlfcakaaCFnFirstCatchPTx19
import Derived.Test.YtlibkefnlfcakaaCFnFirstCatchPTx20
namespace Go.Proofs.Ytlibkefnlfcakaa.Pure
open Go.RowKit Go.Proofs.Ytlibkefnlfcakaa.PT Go.Proofs.YtlibkefnlfcakaaW.PrintWords Go.Proofs.YtlibkefnlfcakaaW.PrintLast
set_option linter.unusedVariables false
set_option linter.unusedSimpArgs false
theorem firstCatch_l0 (t : List S62) (l : List Int) (a : Int) (hv : ValidT t) (ha : HasC t a) (hl : (l.length : Int) ≤ 1099511627776) (m : Nat) : ∀ (i : Int), ((l.length : Int) - i).toNat = m → 0 ≤ i → i ≤ l.length →
    (∀ j : Int, 0 ≤ j → j < i → ¬ Bel t a (rd l j)) → Evs (fun k => spec_firstCatch.l0 k l a i t) (FirstC t l a) := by
  induction m with
  | zero =>
    intro i hm h0 h1 hj
    exact Evs.step (fun k => by rw [spec_firstCatch.l0]) (Evs.no (by omega) (Evs.ret (.inl ⟨rfl, fun b hb => by obtain ⟨j, j0, j1, rfl⟩ := mem_rd.1 hb; exact hj j j0 (by omega)⟩)))
  | succ m ih =>
    intro i hm h0 h1 hj
    have hi : i < (l.length : Int) := by omega
    refine Evs.step (fun k => by rw [spec_firstCatch.l0]) (Evs.yes hi (Evs.yes h0 (Evs.bind (isA_ev t a (rd l i) hv ha) (fun c hc => Evs.ite (fun h => Evs.ret (.inr ⟨h0, hi, hc.1 h, hj⟩)) (fun h => ?_)))))
    rw [w64 (x := i + 1) (by omega) (by omega)]
    refine ih (i + 1) (by omega) (by omega) (by omega) (fun j j0 j1 => ?_)
    by_cases e : j = i
    · subst e; exact fun q => h (hc.2 q)
    · exact hj j j0 (by omega)
theorem firstCatch_ev (t : List S62) (l : List Int) (a : Int) (hv : ValidT t) (ha : HasC t a) (hl : (l.length : Int) ≤ 1099511627776) : Evs (fun k => spec_firstCatch.f k t l a) (FirstC t l a) :=
  firstCatch_l0 t l a hv ha hl _ 0 rfl (by omega) (by omega) (fun j _ _ => by omega)
theorem sFirstCatch_ev (t : List S62) (l : List Int) (a : Int) (ht : SmallT t) (hl : (l.length : Int) ≤ 1099511627776) : Evs (fun k => spec_FirstCatch.f k t l a) (FirstR t l a) := by
  unfold spec_FirstCatch.f
  refine Evs.bind (goodCatches_ev t l ht hl) (fun v hv => Evs.ite (fun h => ?_) (fun h => Evs.ret (.inr ⟨fun q => h (hv.2 q.1), rfl⟩)))
  have hg := hv.1 h
  refine Evs.bind (hasClass_ev t a ht) (fun c hc => Evs.ite (fun h' => ?_) (fun h' => Evs.ret (.inr ⟨fun q => h' (hc.2 q.2), rfl⟩)))
  exact Evs.bind (firstCatch_ev t l a hg.1 (hc.1 h') hl) (fun r hr => Evs.ret (.inl ⟨⟨hg, hc.1 h'⟩, hr⟩))
theorem draw_FirstCatch (l : List Int) (h : Bytes l) : Evs (fun k => spec_DrawFirstCatch.f k l) (fun r => OkT r.1 ∧ r.2.1.length ≤ 12) := by
  unfold spec_DrawFirstCatch.f
  obtain ⟨r, h1, h2, h3⟩ := newReader_ev l h
  refine Evs.bind (Evs.const (P := fun x => x = r) h1 rfl) (fun _ e => ?_)
  subst e
  exact Evs.bind (someTree_ev _ _ h2 (by omega) (by omega)) (fun t ⟨t1, t2, t3⟩ => Evs.bind (someCatches_ev t.1 _ _ h2 t1 t2 (by omega)) (fun c ⟨c1, c2, c3⟩ => Evs.bind (aClass_ev _ _ _ h2 c2 (by omega) t1) (fun _ _ => Evs.ret ⟨t1, c1⟩)))
theorem FnFirstCatch_l0 (t : List S62) (l : List Int) (a r : Int) (ht : OkT t) (hg : CatchOk t l) (ha : HasC t a) (hr : FirstC t l a r) (m : Nat) : ∀ (i : Int), ((l.length : Int) - i).toNat = m → 0 ≤ i → i ≤ l.length →
    Evs (fun k => laws_FnFirstCatch.l0 k l a r i t) (fun b => b = true) := by
  have sm := ht.small
  have hl := hg.2.1
  have last : Evs (fun k => (impl_CaughtBy.f k t l).bind fun c => (laws_isIn.f k c a).bind fun d => some ((decide (r ≥ 0)) == d)) (fun b => b = true) := by
    refine Evs.bind (CaughtBy_ev t l sm) (fun c hc => Evs.bind (isIn_ev c a (by have := hc.len; omega)) (fun d hd => Evs.ret ?_))
    have e : decide (r ≥ 0) = d := by
      rw [Bool.eq_iff_iff, decide_eq_true_iff, hd, ge_iff_le, hr.caught]
      rcases hc with ⟨_, hc⟩ | ⟨hn, _⟩
      · rw [hc, mem_sel]
        exact ⟨fun q => ⟨ha.1, by have := ha.2; omega, q⟩, fun q => q.2.2⟩
      · exact absurd hg hn
    simp [e]
  induction m with
  | zero =>
    intro i hm h0 h1
    refine Evs.step (fun k => by rw [laws_FnFirstCatch.l0]) (Evs.no (by omega) (Evs.ite (fun _ => last) (fun h => ?_)))
    rcases hr with ⟨q, _⟩ | ⟨q1, q2, q3, _⟩
    · omega
    · exact Evs.yes q1 (Evs.yes q2 (Evs.bind (IsA_ev t a (rd l r) sm) (fun c hc => Evs.yes (hc.2 ⟨hg.1, q3⟩) last)))
  | succ m ih =>
    intro i hm h0 h1
    have hi : i < (l.length : Int) := by omega
    have go := ih (i + 1) (by omega) (by omega) (by omega)
    refine Evs.step (fun k => by rw [laws_FnFirstCatch.l0]) (Evs.yes hi (Evs.yes h0 ?_))
    rw [w64 (x := i + 1) (by omega) (by omega)]
    refine Evs.bind (IsA_ev t a (rd l i) sm) (fun c hc => Evs.ite (fun h => ?_) (fun _ => go))
    have hb := (hc.1 h).2
    rcases hr with ⟨q, q'⟩ | ⟨q1, q2, q3, q4⟩
    · exact absurd hb (q' _ (rd_mem h0 hi))
    · refine Evs.no (by omega) (Evs.no (fun q => q4 i h0 q hb) go)
theorem FnFirstCatch_j0 (t : List S62) (l : List Int) (a r : Int) (x : Bool) (ht : OkT t) (hl : l.length ≤ 12) (hr : FirstR t l a r) (hx : x = false → r ≠ -2) :
    Evs (fun k => laws_FnFirstCatch.j0 k l a r x t) (fun b => b = true) := by
  refine Evs.step (fun k => by rw [laws_FnFirstCatch.j0]) (Evs.ite (fun h => ?_) (fun h => ?_))
  · exact Evs.bind (sFirstCatch_ev t l a ht.small (by omega)) (fun s hs => Evs.ret (by simp [hr.uniq hs]))
  · have h1 := hx (by simpa using h)
    rcases hr with ⟨hg, hr⟩ | ⟨_, hr⟩
    · exact FnFirstCatch_l0 t l a r ht hg.1 hg.2 hr _ 0 rfl (by omega) (by omega)
    · exact absurd hr h1
theorem FnFirstCatch : laws_FnFirstCatch.Pure := by
  intro l h0 h1 h2
  apply Evs.done
  unfold laws_FnFirstCatch.f
  refine Evs.ite (fun _ => Evs.ret rfl) (fun _ => ?_)
  refine Evs.bind (draw_FirstCatch l (bytes_of_wf h2)) (fun t ⟨ht, hl⟩ => Evs.bind (FirstCatch_ev _ _ _ ht.small) (fun a ha => Evs.bind (sFirstCatch_ev _ _ _ ht.small (by omega)) (fun b hb => ?_)))
  exact Evs.ite (fun h => FnFirstCatch_j0 _ _ _ _ _ ht hl ha (fun q => by simpa using q)) (fun h => FnFirstCatch_j0 _ _ _ _ _ ht hl ha (by simp))
end Go.Proofs.Ytlibkefnlfcakaa.Pure
