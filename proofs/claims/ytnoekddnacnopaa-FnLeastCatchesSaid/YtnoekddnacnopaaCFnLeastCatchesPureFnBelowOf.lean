/- The plain proof: what the printed functions tell. Conditions: none beyond the statement's own. -/
import Derived.Test.YtnoekddnacnopaaCFnLeastCatchesPureBelow
import Derived.Test.YtnoekddnacnopaaCFnLeastCatchesPTx9
import Derived.Test.YtnoekddnacnopaaCFnLeastCatchesPTx0
import Derived.Test.YtnoekddnacnopaaCFnLeastCatchesPTx3
import Derived.Test.YtnoekddnacnopaaCFnLeastCatchesPTx5
import Derived.Test.YtnoekddnacnopaaCFnLeastCatchesPTx10
namespace Go.Proofs.Ytnoekddnacnopaa.Pure
open Go.RowKit Go.Proofs.Ytnoekddnacnopaa.PT Go.Proofs.YtnoekddnacnopaaW.PrintWords Go.Proofs.YtnoekddnacnopaaW.PrintLast
set_option linter.unusedVariables false
theorem pairwise_rd {xs : List Int} (h : xs.Pairwise (· < ·)) {i j : Int} (h0 : 0 ≤ i) (h1 : i < j) (h2 : j < xs.length) : rd xs i < rd xs j := by
  unfold rd
  rw [getD_nat _ _ _ (by omega), getD_nat _ _ _ (by omega)]
  exact List.pairwise_iff_getElem.1 h i.toNat j.toNat (by omega) (by omega) (by omega)
theorem ascends_l0 (x : List Int) (hx : (x.length : Int) ≤ 1099511627776) (hs : x.Pairwise (· < ·)) : ∀ (m : Nat) (i : Int), ((x.length : Int) - i).toNat = m → 1 ≤ i →
    Evs (fun k => laws_ascends.l0 k x i) (fun r => r = true)
  | 0, i, hm, h0 => Evs.step (fun k => by rw [laws_ascends.l0]) (Evs.no (by omega) (Evs.ret rfl))
  | m + 1, i, hm, h0 => by
    refine Evs.step (fun k => by rw [laws_ascends.l0]) (Evs.yes (by omega) ?_)
    rw [w64 (x := i - 1) (by omega) (by omega), w64 (x := i + 1) (by omega) (by omega)]
    have := pairwise_rd hs (i := i - 1) (j := i) (by omega) (by omega) (by omega)
    exact Evs.yes (by omega) (Evs.yes (by omega) (Evs.yes (by omega) (Evs.no (by omega) (ascends_l0 x hx hs m (i + 1) (by omega) (by omega)))))
theorem ascends_ev (x : List Int) (hx : (x.length : Int) ≤ 1099511627776) (hs : x.Pairwise (· < ·)) : Evs (fun k => laws_ascends.f k x) (fun r => r = true) :=
  ascends_l0 x hx hs _ 1 rfl (by omega)
end Go.Proofs.Ytnoekddnacnopaa.Pure
