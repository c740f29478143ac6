/- The plain proof: what the printed functions tell. Conditions: none beyond the statement's own. -/
import Derived.Test.YtcbbflemaefeeaaCFnLeavesOfPureTree
namespace Go.Proofs.Ytcbbflemaefeeaa.Pure
open Go.RowKit Go.Proofs.Ytcbbflemaefeeaa.PT Go.Proofs.YtcbbflemaefeeaaW.PrintWords
set_option linter.unusedVariables false
set_option linter.unusedSimpArgs false
def HasC (t : List S70) (a : Int) : Prop := 0 ≤ a ∧ a < (t.length : Int)
instance HasC.dec (t : List S70) (a : Int) : Decidable (HasC t a) := inferInstanceAs (Decidable (0 ≤ a ∧ a < (t.length : Int)))
theorem has_eq (t : List S70) (a : Int) (ht : SmallT t) : impl_Tree_has.f t a = some (decide (HasC t a)) := by
  obtain ⟨k, r, h1, h2⟩ := (within_ev a 0 (wrap64 ((t.length : Int) - 1))).rounds
  have hl := ht.1
  rw [w64 (x := (t.length : Int) - 1) (by omega) (by omega)] at h1 h2
  unfold impl_Tree_has.f
  rw [w64 (x := (t.length : Int) - 1) (by omega) (by omega), h1]
  simp only [Option.bind_some, Option.some.injEq]
  rw [Bool.eq_iff_iff, h2]
  rw [decide_eq_true_iff]
  unfold HasC
  omega
theorem hasClass_ev (t : List S70) (a : Int) (ht : SmallT t) : Evs (fun _ => spec_hasClass.f t a) (fun r => r = true ↔ HasC t a) := by
  have hl := ht.1
  unfold spec_hasClass.f
  rw [w64 (x := (t.length : Int) - 1) (by omega) (by omega)]
  refine Evs.bind (inRange_ev _ _ _) (fun r hr => Evs.ret ?_)
  rw [hr]
  unfold HasC
  omega
def IsWay (t : List S70) : Int → List Int → Prop
  | a, [] => a < 0
  | a, x :: xs => x = a ∧ HasC t a ∧ IsWay t (rd_T70 t a).f1 xs
theorem IsWay.uniq {t : List S70} : ∀ {a : Int} {r s : List Int}, IsWay t a r → IsWay t a s → r = s
  | a, [], [], _, _ => rfl
  | a, [], y :: ys, h, k => by have := k.2.1.1; simp only [IsWay] at h; omega
  | a, x :: xs, [], h, k => by have := h.2.1.1; simp only [IsWay] at k; omega
  | a, x :: xs, y :: ys, h, k => by rw [h.1, k.1, h.2.2.uniq k.2.2]
end Go.Proofs.Ytcbbflemaefeeaa.Pure
