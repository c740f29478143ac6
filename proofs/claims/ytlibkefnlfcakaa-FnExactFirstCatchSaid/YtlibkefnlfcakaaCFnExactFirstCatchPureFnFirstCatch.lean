/- The plain proof: what the printed functions tell. Conditions: none beyond the statement's own. -/
import Derived.Test.YtlibkefnlfcakaaCFnExactFirstCatchPureCatches
import Derived.Test.YtlibkefnlfcakaaCFnExactFirstCatchPTx17
import Derived.Test.YtlibkefnlfcakaaCFnExactFirstCatchPTx0
import Derived.Test.YtlibkefnlfcakaaCFnExactFirstCatchPTx2
import Derived.Test.YtlibkefnlfcakaaCFnExactFirstCatchPTx4
import Derived.Test.YtlibkefnlfcakaaCFnExactFirstCatchPTx18
import Derived.Test.YtlibkefnlfcakaaCFnExactFirstCatchPTx8
import Derived.Test.YtlibkefnlfcakaaCFnExactFirstCatchPTx14
namespace Go.Proofs.Ytlibkefnlfcakaa.Pure
open Go.RowKit Go.Proofs.Ytlibkefnlfcakaa.PT Go.Proofs.YtlibkefnlfcakaaW.PrintWords Go.Proofs.YtlibkefnlfcakaaW.PrintLast
set_option linter.unusedVariables false
set_option linter.unusedSimpArgs false
theorem firstCatch_l0 (t : List S62) (l : List Int) (a : Int) (hv : ValidT t) (ha : HasC t a) (hl : (l.length : Int) ≤ 1099511627776) (m : Nat) : ∀ (i : Int), ((l.length : Int) - i).toNat = m → 0 ≤ i → i ≤ l.length →
    (∀ j : Int, 0 ≤ j → j < i → ¬ Bel t a (rd l j)) → Evs (fun k => spec_firstCatch.l0 k l a i t) (FirstC t l a) := by
  induction m with
  | zero =>
    intro i hm h0 h1 hj
    exact Evs.step (fun k => by rw [spec_firstCatch.l0]) (Evs.no (by omega) (Evs.ret (.inl ⟨rfl, fun b hb => by obtain ⟨j, j0, j1, rfl⟩ := mem_rd.1 hb; exact hj j j0 (by omega)⟩)))
  | succ m ih =>
    intro i hm h0 h1 hj
    have hi : i < (l.length : Int) := by omega
    refine Evs.step (fun k => by rw [spec_firstCatch.l0]) (Evs.yes hi (Evs.yes h0 (Evs.bind (isA_ev t a (rd l i) hv ha) (fun c hc => Evs.ite (fun h => Evs.ret (.inr ⟨h0, hi, hc.1 h, hj⟩)) (fun h => ?_)))))
    rw [w64 (x := i + 1) (by omega) (by omega)]
    refine ih (i + 1) (by omega) (by omega) (by omega) (fun j j0 j1 => ?_)
    by_cases e : j = i
    · subst e; exact fun q => h (hc.2 q)
    · exact hj j j0 (by omega)
theorem firstCatch_ev (t : List S62) (l : List Int) (a : Int) (hv : ValidT t) (ha : HasC t a) (hl : (l.length : Int) ≤ 1099511627776) : Evs (fun k => spec_firstCatch.f k t l a) (FirstC t l a) :=
  firstCatch_l0 t l a hv ha hl _ 0 rfl (by omega) (by omega) (fun j _ _ => by omega)
theorem sFirstCatch_ev (t : List S62) (l : List Int) (a : Int) (ht : SmallT t) (hl : (l.length : Int) ≤ 1099511627776) : Evs (fun k => spec_FirstCatch.f k t l a) (FirstR t l a) := by
  unfold spec_FirstCatch.f
  refine Evs.bind (goodCatches_ev t l ht hl) (fun v hv => Evs.ite (fun h => ?_) (fun h => Evs.ret (.inr ⟨fun q => h (hv.2 q.1), rfl⟩)))
  have hg := hv.1 h
  refine Evs.bind (hasClass_ev t a ht) (fun c hc => Evs.ite (fun h' => ?_) (fun h' => Evs.ret (.inr ⟨fun q => h' (hc.2 q.2), rfl⟩)))
  exact Evs.bind (firstCatch_ev t l a hg.1 (hc.1 h') hl) (fun r hr => Evs.ret (.inl ⟨⟨hg, hc.1 h'⟩, hr⟩))
end Go.Proofs.Ytlibkefnlfcakaa.Pure
