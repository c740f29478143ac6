/- The plain proof: what the printed functions tell. Conditions: none beyond the statement's own. -/
import Derived.Test.YtdjdfflpdngohaaCFnInnerTracePureTrace
import Derived.WideShapes
import Derived.Test.YtdjdfflpdngohaaCFnInnerTracePTx8
import Derived.Test.YtdjdfflpdngohaaCFnInnerTracePTx2
namespace Go.Proofs.Ytdjdfflpdngohaa.Pure
open Go.RowKit Go.Proofs.Ytdjdfflpdngohaa.PT Go.Proofs.YtdjdfflpdngohaaW.PrintWords
set_option linter.unusedVariables false
set_option linter.unusedSimpArgs false
theorem tl_inj {a b : ByteArray} (h : a.toList = b.toList) : a = b := by
  rw [ByteArray.toList_eq, ByteArray.toList_eq] at h
  exact Go.WideShapes.bytes_inj h
theorem same_iff (a b : S35) : ((a.f0.toList == b.f0.toList) && (a.f1 == b.f1)) = true ↔ a = b := by
  rw [Bool.and_eq_true, beq_iff_eq, beq_iff_eq]
  refine ⟨fun ⟨h, k⟩ => ?_, fun h => by subst h; exact ⟨rfl, rfl⟩⟩
  cases a
  cases b
  have := tl_inj h
  simp only at this k
  rw [this, k]
theorem diff_iff (a b : S35) : (!(a.f0.toList == b.f0.toList) || !(a.f1 == b.f1)) = true ↔ a ≠ b := by
  rw [← Bool.not_and, Bool.not_eq_true', ← Bool.not_eq_true, same_iff]
theorem ext_rdSF {x y : List S35} (hl : x.length = y.length) (h : ∀ j : Int, 0 ≤ j → j < x.length → rd_T35 x j = rd_T35 y j) : x = y := by
  refine List.ext_getElem hl fun i h1 h2 => ?_
  have := h i (by omega) (by omega)
  unfold rd_T35 at this
  rwa [Int.toNat_natCast, getD_nat _ _ _ h1, getD_nat _ _ _ h2] at this
theorem equalTrace_l0 (x y : List S35) (hl : x.length = y.length) (hx : (x.length : Int) ≤ 1099511627776) : ∀ (m : Nat) (i : Int), ((x.length : Int) - i).toNat = m → 0 ≤ i → i ≤ x.length →
    Evs (fun k => laws_equalTrace.l0 k x y i) (fun r => r = true ↔ ∀ j : Int, i ≤ j → j < x.length → rd_T35 x j = rd_T35 y j)
  | 0, i, hm, h0, h1 => by
    exact Evs.step (fun k => by rw [laws_equalTrace.l0]) (Evs.no (by omega) (Evs.ret ⟨fun _ j j0 j1 => by omega, fun _ => rfl⟩))
  | m + 1, i, hm, h0, h1 => by
    refine Evs.step (fun k => by rw [laws_equalTrace.l0]) (Evs.yes (by omega) (Evs.yes h0 (Evs.yes (by omega) (Evs.ite (fun h => Evs.ret ⟨fun q => by simp at q, fun q => absurd (q i (by omega) (by omega)) ((diff_iff _ _).1 h)⟩) (fun h => ?_)))))
    have h : rd_T35 x i = rd_T35 y i := Classical.byContradiction fun q => h ((diff_iff _ _).2 q)
    rw [w64 (x := i + 1) (by omega) (by omega)]
    refine (equalTrace_l0 x y hl hx m (i + 1) (by omega) (by omega) (by omega)).imp fun r hr => ?_
    rw [hr]
    exact ⟨fun q => from_here (P := fun j => rd_T35 x j = rd_T35 y j) h q, fun q j j0 j1 => q j (by omega) j1⟩
theorem equalTrace_ev (x y : List S35) (hx : (x.length : Int) ≤ 1099511627776) : Evs (fun k => laws_equalTrace.f k x y) (fun r => r = true ↔ x = y) := by
  unfold laws_equalTrace.f
  refine Evs.ite (fun h => ?_) (fun h => Evs.ret ⟨fun q => by simp at q, fun q => absurd (by rw [q]) h⟩)
  have hl : x.length = y.length := by omega
  refine (equalTrace_l0 x y hl hx _ 0 rfl (by omega) (by omega)).imp fun r hr => ?_
  rw [hr]
  exact ⟨fun q => ext_rdSF hl q, fun q j _ _ => by rw [q]⟩
def Head (t u : List S35) (r : Int) : Prop := (0 ≤ r ∧ r ≤ t.length ∧ r ≤ u.length) ∧ (∀ j : Int, 0 ≤ j → j < r → rd_T35 t j = rd_T35 u j) ∧ (r < t.length → r < u.length → rd_T35 t r ≠ rd_T35 u r)
theorem Head.uniq {t u : List S35} {r s : Int} (h : Head t u r) (k : Head t u s) : r = s := by
  obtain ⟨⟨h1, h2, h3⟩, h4, h5⟩ := h
  obtain ⟨⟨k1, k2, k3⟩, k4, k5⟩ := k
  by_cases hlt : r < s
  · exact absurd (k4 r h1 hlt) (h5 (by omega) (by omega))
  · by_cases hlt' : s < r
    · exact absurd (h4 s k1 hlt') (k5 (by omega) (by omega))
    · omega
end Go.Proofs.Ytdjdfflpdngohaa.Pure
