/- The plain proof: what the printed functions tell. Conditions: none beyond the statement's own. -/
import Derived.Test.YtihglabpnladoaaCFnExactAboveOfPureMarks
import Derived.Test.YtihglabpnladoaaCFnExactAboveOfPureExClass
import Derived.Test.YtihglabpnladoaaCFnExactAboveOfPTx11
namespace Go.Proofs.Ytihglabpnladoaa.Pure
open Go.RowKit Go.Proofs.Ytihglabpnladoaa.PT Go.Proofs.YtihglabpnladoaaW.PrintWords
set_option linter.unusedVariables false
set_option linter.unusedSimpArgs false
theorem markClass_l0 (n : Nat) (hn : (n : Int) ≤ 1073741824) (m : Nat) : ∀ (i a : Int) (x : List S34), ((n : Int) - i).toNat = m → 0 ≤ i → i ≤ n → 0 ≤ a → a + 2 * m ≤ 1099511627776 → x.length = n →
    Evs (fun k => laws_markClassS.l0 k x a i) (fun r => r.1 = a + 2 * m ∧ r.2.length = n) := by
  induction m with
  | zero =>
    intro i a x hm h0 h1 ha ha' hx
    exact Evs.step (fun k => by rw [laws_markClassS.l0]) (Evs.no (by omega) (Evs.ret ⟨by simp only; omega, hx⟩))
  | succ m ih =>
    intro i a x hm h0 h1 ha ha' hx
    obtain ⟨s, hs⟩ := markText_ev a (by omega)
    refine Evs.step (fun k => by rw [laws_markClassS.l0]) (Evs.yes (by omega) (Evs.bind (P := fun _ => True) ⟨s, hs, trivial⟩ (fun t _ => Evs.yes h0 ?_)))
    refine Evs.bind (P := fun y => y.length = n) (Evs.ret (by simpa using hx)) (fun y hy => ?_)
    rw [w64 (x := i + 1) (by omega) (by omega), w64 (x := a + 1) (by omega) (by omega), w64 (x := a + 1 + 1) (by omega) (by omega)]
    exact (ih (i + 1) (a + 1 + 1) _ (by omega) (by omega) (by omega) (by omega) (by omega) (by simpa using hy)).imp fun r ⟨r1, r2⟩ => ⟨by omega, r2⟩
theorem markTree_ev (x : List S34) (hx : (x.length : Int) ≤ 1048576) : Evs (fun k => laws_markTree.f k x 1) (fun r => r.1 = 1 + 2 * x.length ∧ r.2.length = x.length) := by
  unfold laws_markTree.f laws_markClassS.f
  exact Evs.bind (markClass_l0 x.length (by omega) x.length 0 1 x (by omega) (by omega) (by omega) (by omega) (by omega) rfl) (fun r hr => Evs.ret hr)
end Go.Proofs.Ytihglabpnladoaa.Pure
