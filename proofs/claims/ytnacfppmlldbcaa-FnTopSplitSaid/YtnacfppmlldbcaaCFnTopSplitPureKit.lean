/- The plain proof: what the printed functions tell. Conditions: none beyond the statement's own. -/
import Derived.Test.YtnacfppmlldbcaaCFnTopSplitPTx0
import Derived.Test.YtnacfppmlldbcaaCFnTopSplitWWords
import Derived.Laws.BitsLemmas
namespace Go.Proofs.Ytnacfppmlldbcaa.Pure
open Go.RowKit Go.Proofs.Ytnacfppmlldbcaa.PT Go.Proofs.YtnacfppmlldbcaaW.PrintWords
set_option linter.unusedVariables false
set_option linter.unusedSimpArgs false
def Evs {α : Type} (g : Nat → Option α) (P : α → Prop) : Prop := ∃ a, Ev g a ∧ P a
theorem Evs.ret {α : Type} {P : α → Prop} {a : α} (h : P a) : Evs (fun _ => some a) P := ⟨a, Ev.now a, h⟩
theorem Evs.bind {α β : Type} {g : Nat → Option α} {f : Nat → α → Option β} {P : α → Prop} {Q : β → Prop} (h : Evs g P) (k : ∀ a, P a → Evs (fun n => f n a) Q) :
    Evs (fun n => (g n).bind (f n)) Q := by
  obtain ⟨a, h1, h2⟩ := h
  obtain ⟨b, k1, k2⟩ := k a h2
  exact ⟨b, Ev.bind h1 k1, k2⟩
theorem Evs.ite {α : Type} {c : Prop} [Decidable c] {A B : Nat → Option α} {P : α → Prop} (h : c → Evs A P) (k : ¬ c → Evs B P) : Evs (fun n => if c then A n else B n) P := by
  by_cases hc : c
  · simpa [hc] using h hc
  · simpa [hc] using k hc
theorem Evs.yes {α : Type} {c : Prop} [Decidable c] {A B : Nat → Option α} {P : α → Prop} (hc : c) (h : Evs A P) : Evs (fun n => if c then A n else B n) P := by
  simpa [hc] using h
theorem Evs.no {α : Type} {c : Prop} [Decidable c] {A B : Nat → Option α} {P : α → Prop} (hc : ¬ c) (h : Evs B P) : Evs (fun n => if c then A n else B n) P := by
  simpa [hc] using h
theorem Evs.step {α : Type} {g f : Nat → Option α} {P : α → Prop} (h : ∀ k, g (k + 1) = f k) (k : Evs f P) : Evs g P := by
  obtain ⟨a, k1, k2⟩ := k
  exact ⟨a, Ev.step h k1, k2⟩
theorem Evs.congr {α : Type} {g f : Nat → Option α} {P : α → Prop} (h : ∀ k, g k = f k) (k : Evs f P) : Evs g P := by
  obtain ⟨a, k1, k2⟩ := k
  exact ⟨a, Ev.congr h k1, k2⟩
theorem Evs.imp {α : Type} {g : Nat → Option α} {P Q : α → Prop} (h : Evs g P) (k : ∀ a, P a → Q a) : Evs g Q := by
  obtain ⟨a, h1, h2⟩ := h
  exact ⟨a, h1, k a h2⟩
theorem Evs.const {α : Type} {g : Option α} {P : α → Prop} {a : α} (h : g = some a) (k : P a) : Evs (fun _ => g) P := ⟨a, ⟨0, fun _ _ => h⟩, k⟩
theorem Evs.rounds {α : Type} {g : Nat → Option α} {P : α → Prop} (h : Evs g P) : ∃ k a, g k = some a ∧ P a := by
  obtain ⟨a, ⟨K, h1⟩, h2⟩ := h
  exact ⟨K, a, h1 K (Nat.le_refl _), h2⟩
theorem Evs.done {α : Type} {g : Nat → Option α} {a : α} (h : Evs g (fun r => r = a)) : ∃ k, g k = some a := by
  obtain ⟨k, b, h1, rfl⟩ := h.rounds
  exact ⟨k, h1⟩
theorem w64 {x : Int} (h : -9223372036854775808 ≤ x) (k : x < 9223372036854775808) : wrap64 x = x := by unfold wrap64; omega
theorem getD_nat {α : Type} (d : α) (xs : List α) (i : Nat) (h : i < xs.length) : xs.getD i d = xs[i] := by
  simp [List.getD_eq_getElem?_getD, List.getElem?_eq_getElem h]
theorem rd_mem {xs : List Int} {i : Int} (h0 : 0 ≤ i) (h : i < (xs.length : Int)) : rd xs i ∈ xs := by
  unfold rd; rw [getD_nat _ _ _ (by omega)]; exact List.getElem_mem _
end Go.Proofs.Ytnacfppmlldbcaa.Pure
