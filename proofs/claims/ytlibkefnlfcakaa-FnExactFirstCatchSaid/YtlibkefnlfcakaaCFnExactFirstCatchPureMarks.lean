/- The plain proof: what the printed functions tell. Conditions: none beyond the statement's own. -/
import Derived.Test.YtlibkefnlfcakaaCFnExactFirstCatchPureNames
import Derived.Test.YtlibkefnlfcakaaCFnExactFirstCatchPTx17
import Derived.Test.YtlibkefnlfcakaaCFnExactFirstCatchPTx0
namespace Go.Proofs.Ytlibkefnlfcakaa.Pure
open Go.RowKit Go.Proofs.Ytlibkefnlfcakaa.PT Go.Proofs.YtlibkefnlfcakaaW.PrintWords
set_option linter.unusedVariables false
set_option linter.unusedSimpArgs false
theorem Ev.uniq {α : Type} {g : Nat → Option α} {a b : α} (h : Ev g a) (k : Ev g b) : a = b := by
  obtain ⟨K, h⟩ := h
  obtain ⟨L, k⟩ := k
  have h1 := h (max K L) (by omega)
  have h2 := k (max K L) (by omega)
  rw [h1] at h2
  exact Option.some.inj h2
theorem eqInt_l0 (x : List Int) (hx : (x.length : Int) ≤ 1099511627776) : ∀ (m : Nat) (i : Int), ((x.length : Int) - i).toNat = m → 0 ≤ i → i ≤ x.length → Evs (fun k => laws_eqIntS.l0 k x x i) (fun r => r = true)
  | 0, i, hm, h0, h1 => Evs.step (fun k => by rw [laws_eqIntS.l0]) (Evs.no (by omega) (Evs.ret rfl))
  | m + 1, i, hm, h0, h1 => by
    refine Evs.step (fun k => by rw [laws_eqIntS.l0]) (Evs.yes (by omega) (Evs.yes h0 (Evs.yes (by omega) (Evs.yes rfl ?_))))
    rw [w64 (x := i + 1) (by omega) (by omega)]
    exact eqInt_l0 x hx m (i + 1) (by omega) (by omega) (by omega)
theorem eqInt_ev (x : List Int) (hx : (x.length : Int) ≤ 1099511627776) : Evs (fun k => laws_eqIntS.f k x x) (fun r => r = true) := by
  unfold laws_eqIntS.f
  exact Evs.yes rfl (eqInt_l0 x hx _ 0 rfl (by omega) (by omega))
end Go.Proofs.Ytlibkefnlfcakaa.Pure
