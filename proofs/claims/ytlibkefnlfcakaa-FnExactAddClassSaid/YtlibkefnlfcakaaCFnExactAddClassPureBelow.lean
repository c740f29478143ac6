/- The plain proof: what the printed functions tell. Conditions: none beyond the statement's own. -/
import Derived.Test.YtlibkefnlfcakaaCFnExactAddClassPureClass
import Derived.Test.YtlibkefnlfcakaaCFnExactAddClassPTx0
import Derived.Test.YtlibkefnlfcakaaCFnExactAddClassPTx6
import Derived.Test.YtlibkefnlfcakaaCFnExactAddClassPTx7
import Derived.Test.YtlibkefnlfcakaaCFnExactAddClassPTx8
import Derived.Test.YtlibkefnlfcakaaCFnExactAddClassPTx9
import Derived.Test.YtlibkefnlfcakaaCFnExactAddClassPTx14
namespace Go.Proofs.Ytlibkefnlfcakaa.Pure
open Go.RowKit Go.Proofs.Ytlibkefnlfcakaa.PT Go.Proofs.YtlibkefnlfcakaaW.PrintWords
set_option linter.unusedVariables false
set_option linter.unusedSimpArgs false
def Bel (t : List S62) (a b : Int) : Prop := ∃ r, IsWay t a r ∧ b ∈ r
noncomputable instance Bel.dec (t : List S62) (a b : Int) : Decidable (Bel t a b) := Classical.propDecidable _
theorem ValidT.way {t : List S62} (hv : ValidT t) : ∀ (n : Nat) (a : Int), (a + 1).toNat ≤ n → -1 ≤ a → a < (t.length : Int) → ∃ r, IsWay t a r
  | 0, a, hn, h0, h1 => ⟨[], by simp only [IsWay]; omega⟩
  | n + 1, a, hn, h0, h1 => by
    by_cases h : a < 0
    · exact ⟨[], by simp only [IsWay]; omega⟩
    · have ha : HasC t a := ⟨by omega, h1⟩
      have hu := hv.up ha
      obtain ⟨r, hr⟩ := hv.way n (rd_T62 t a).f1 (by omega) hu.1 (by omega)
      exact ⟨a :: r, rfl, ha, hr⟩
theorem Bel.refl {t : List S62} (hv : ValidT t) {a : Int} (ha : HasC t a) : Bel t a a := by
  obtain ⟨r, hr⟩ := hv.way _ a (Nat.le_refl _) (by have := ha.1; omega) ha.2
  cases r with
  | nil => have := ha.1; simp only [IsWay] at hr; omega
  | cons x xs => exact ⟨x :: xs, hr, by rw [hr.1]; exact List.mem_cons_self⟩
theorem IsWay.tail {t : List S62} : ∀ {a : Int} {r : List Int}, IsWay t a r → ∀ b ∈ r, ∃ s, IsWay t b s ∧ HasC t b ∧ ∀ c ∈ s, c ∈ r
  | a, x :: xs, h, b, hb => by
    rcases List.mem_cons.1 hb with e | e
    · subst e
      have e2 := h.1
      subst e2
      exact ⟨b :: xs, h, h.2.1, fun c hc => hc⟩
    · obtain ⟨s, h1, h2, h3⟩ := h.2.2.tail b e
      exact ⟨s, h1, h2, fun c hc => List.mem_cons_of_mem _ (h3 c hc)⟩
theorem Bel.trans {t : List S62} {a b c : Int} (h : Bel t a b) (k : Bel t b c) : Bel t a c := by
  obtain ⟨r, h1, h2⟩ := h
  obtain ⟨s, k1, k2⟩ := k
  obtain ⟨s', g1, _, g3⟩ := h1.tail b h2
  have e := g1.uniq k1
  subst e
  exact ⟨r, h1, g3 c k2⟩
def sel (P : Int → Prop) [∀ x, Decidable (P x)] (i : Int) : Nat → List Int
  | 0 => []
  | m + 1 => if P i then i :: sel P (i + 1) m else sel P (i + 1) m
theorem sel_length (P : Int → Prop) [∀ x, Decidable (P x)] : ∀ (m : Nat) (i : Int), (sel P i m).length ≤ m
  | 0, i => by simp [sel]
  | m + 1, i => by
    have := sel_length P m (i + 1)
    unfold sel
    split
    · simp; omega
    · omega
def Below (t : List S62) (a : Int) (r : List Int) : Prop := ((ValidT t ∧ HasC t a) ∧ r = sel (fun b => Bel t b a) 0 t.length) ∨ (¬ (ValidT t ∧ HasC t a) ∧ r = [])
theorem Below.uniq {t : List S62} {a : Int} {r s : List Int} (h : Below t a r) (k : Below t a s) : r = s := by
  rcases h with ⟨h1, h2⟩ | ⟨h1, h2⟩ <;> rcases k with ⟨k1, k2⟩ | ⟨k1, k2⟩
  · rw [h2, k2]
  · exact absurd h1 k1
  · exact absurd k1 h1
  · rw [h2, k2]
theorem Below.len {t : List S62} {a : Int} {r : List Int} (h : Below t a r) : (r.length : Int) ≤ 8 := by
  rcases h with ⟨h1, h2⟩ | ⟨h1, h2⟩
  · have := h1.1.1
    have := sel_length (fun b => Bel t b a) t.length 0
    rw [h2]
    omega
  · rw [h2]; simp
end Go.Proofs.Ytlibkefnlfcakaa.Pure
