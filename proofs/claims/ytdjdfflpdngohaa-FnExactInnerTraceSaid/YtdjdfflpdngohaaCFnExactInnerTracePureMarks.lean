/- The plain proof: what the printed functions tell. Conditions: none beyond the statement's own. -/
import Derived.Test.YtdjdfflpdngohaaCFnExactInnerTracePureNames
import Derived.Test.YtdjdfflpdngohaaCFnExactInnerTracePTx4
namespace Go.Proofs.Ytdjdfflpdngohaa.Pure
open Go.RowKit Go.Proofs.Ytdjdfflpdngohaa.PT Go.Proofs.YtdjdfflpdngohaaW.PrintWords
set_option linter.unusedVariables false
set_option linter.unusedSimpArgs false
theorem Ev.uniq {α : Type} {g : Nat → Option α} {a b : α} (h : Ev g a) (k : Ev g b) : a = b := by
  obtain ⟨K, h⟩ := h
  obtain ⟨L, k⟩ := k
  have h1 := h (max K L) (by omega)
  have h2 := k (max K L) (by omega)
  rw [h1] at h2
  exact Option.some.inj h2
theorem strOfNums_one (x : Int) : (strOfNums [x]).size = 1 := by
  simp [strOfNums, ByteArray.size]
theorem markText_l0 (m : Nat) : ∀ (a : Int) (s : ByteArray), a.toNat ≤ m → 0 ≤ a → a ≤ 1099511627777 → (s.size : Int) + m ≤ 1099511627778 → Evs (fun k => laws_markText.l0 k a s) (fun _ => True) := by
  induction m with
  | zero =>
    intro a s hm h0 h1 hs
    exact Evs.step (fun k => by rw [laws_markText.l0]) (Evs.no (by omega) (Evs.yes (by omega) (Evs.ret trivial)))
  | succ m ih =>
    intro a s hm h0 h1 hs
    refine Evs.step (fun k => by rw [laws_markText.l0]) (Evs.ite (fun h => ?_) (fun h => Evs.yes (by omega) (Evs.ret trivial)))
    refine Evs.bind (P := fun y => (strOfNums y).size = 1) (Evs.ret (strOfNums_one _)) (fun y e => ?_)
    have d0 : 0 ≤ Int.tdiv a 10 := Int.tdiv_nonneg h0 (by omega)
    have d1 : Int.tdiv a 10 < a := by rw [Int.tdiv_eq_ediv_of_nonneg h0]; omega
    refine Evs.yes (by omega) ?_
    rw [w64 (x := Int.tdiv a 10) (by omega) (by omega)]
    refine ih _ _ (by omega) d0 (by omega) ?_
    rw [ByteArray.size_append, e]
    omega
theorem markText_ev (a : Int) (h1 : a ≤ 1099511627777) : ∃ s, Ev (fun k => laws_markText.f k a) s := by
  have : Evs (fun k => laws_markText.f k a) (fun _ => True) := by
    unfold laws_markText.f
    refine Evs.ite (fun _ => Evs.ret trivial) (fun h => markText_l0 a.toNat a _ (Nat.le_refl _) (by omega) h1 ?_)
    have e : (⟨#[]⟩ : ByteArray).size = 0 := rfl
    rw [e]
    omega
  obtain ⟨s, h, _⟩ := this
  exact ⟨s, h⟩
end Go.Proofs.Ytdjdfflpdngohaa.Pure
