/- The plain proof: what the printed functions tell. Conditions: none beyond the statement's own. -/
import Derived.Test.YtnacfppmlldbcaaCFnTopSplitPureClass
import Derived.Test.YtnacfppmlldbcaaCFnTopSplitPTx9
import Derived.Test.YtnacfppmlldbcaaCFnTopSplitPTx5
import Derived.Test.YtnacfppmlldbcaaCFnTopSplitPTx12
namespace Go.Proofs.Ytnacfppmlldbcaa.Pure
open Go.RowKit Go.Proofs.Ytnacfppmlldbcaa.PT Go.Proofs.YtnacfppmlldbcaaW.PrintWords
set_option linter.unusedVariables false
set_option linter.unusedSimpArgs false
def Bel (t : List S51) (a b : Int) : Prop := ∃ r, IsWay t a r ∧ b ∈ r
noncomputable instance Bel.dec (t : List S51) (a b : Int) : Decidable (Bel t a b) := Classical.propDecidable _
theorem ValidT.way {t : List S51} (hv : ValidT t) : ∀ (n : Nat) (a : Int), (a + 1).toNat ≤ n → -1 ≤ a → a < (t.length : Int) → ∃ r, IsWay t a r
  | 0, a, hn, h0, h1 => ⟨[], by simp only [IsWay]; omega⟩
  | n + 1, a, hn, h0, h1 => by
    by_cases h : a < 0
    · exact ⟨[], by simp only [IsWay]; omega⟩
    · have ha : HasC t a := ⟨by omega, h1⟩
      have hu := hv.up ha
      obtain ⟨r, hr⟩ := hv.way n (rd_T51 t a).f1 (by omega) hu.1 (by omega)
      exact ⟨a :: r, rfl, ha, hr⟩
theorem Bel.refl {t : List S51} (hv : ValidT t) {a : Int} (ha : HasC t a) : Bel t a a := by
  obtain ⟨r, hr⟩ := hv.way _ a (Nat.le_refl _) (by have := ha.1; omega) ha.2
  cases r with
  | nil => have := ha.1; simp only [IsWay] at hr; omega
  | cons x xs => exact ⟨x :: xs, hr, by rw [hr.1]; exact List.mem_cons_self⟩
theorem IsWay.tail {t : List S51} : ∀ {a : Int} {r : List Int}, IsWay t a r → ∀ b ∈ r, ∃ s, IsWay t b s ∧ HasC t b ∧ ∀ c ∈ s, c ∈ r
  | a, x :: xs, h, b, hb => by
    rcases List.mem_cons.1 hb with e | e
    · subst e
      have e2 := h.1
      subst e2
      exact ⟨b :: xs, h, h.2.1, fun c hc => hc⟩
    · obtain ⟨s, h1, h2, h3⟩ := h.2.2.tail b e
      exact ⟨s, h1, h2, fun c hc => List.mem_cons_of_mem _ (h3 c hc)⟩
theorem Bel.has {t : List S51} {a b : Int} (h : Bel t a b) : HasC t b := by
  obtain ⟨r, h1, h2⟩ := h
  obtain ⟨s, _, h3, _⟩ := h1.tail b h2
  exact h3
theorem Bel.hasl {t : List S51} {a b : Int} (h : Bel t a b) : HasC t a := by
  obtain ⟨r, h1, h2⟩ := h
  cases r with
  | nil => simp at h2
  | cons x xs => exact h1.2.1
theorem Bel.trans {t : List S51} {a b c : Int} (h : Bel t a b) (k : Bel t b c) : Bel t a c := by
  obtain ⟨r, h1, h2⟩ := h
  obtain ⟨s, k1, k2⟩ := k
  obtain ⟨s', g1, _, g3⟩ := h1.tail b h2
  have e := g1.uniq k1
  subst e
  exact ⟨r, h1, g3 c k2⟩
theorem Bel.of_way {t : List S51} {a b : Int} {r : List Int} (h : IsWay t a r) : b ∈ r ↔ Bel t a b :=
  ⟨fun k => ⟨r, h, k⟩, fun ⟨s, k1, k2⟩ => by rw [h.uniq k1]; exact k2⟩
theorem mem_rd {x : Int} {xs : List Int} : x ∈ xs ↔ ∃ j : Int, 0 ≤ j ∧ j < xs.length ∧ rd xs j = x := by
  refine ⟨fun h => ?_, fun ⟨j, h0, h1, h2⟩ => h2 ▸ rd_mem h0 h1⟩
  obtain ⟨i, hi, rfl⟩ := List.getElem_of_mem h
  refine ⟨i, by omega, by omega, ?_⟩
  unfold rd
  rw [Int.toNat_natCast, getD_nat _ _ _ hi]
theorem exists_here {P : Int → Prop} {i n : Int} (h : ¬ P i) : (∃ j, i + 1 ≤ j ∧ j < n ∧ P j) ↔ ∃ j, i ≤ j ∧ j < n ∧ P j := by
  refine ⟨fun ⟨j, a, b, c⟩ => ⟨j, by omega, b, c⟩, fun ⟨j, a, b, c⟩ => ⟨j, ?_, b, c⟩⟩
  by_cases e : j = i
  · subst e; exact absurd c h
  · omega
theorem hasInt_l0 (x : List Int) (n : Int) (hx : (x.length : Int) ≤ 9223372036854775807) : ∀ (m : Nat) (i : Int), ((x.length : Int) - i).toNat = m → 0 ≤ i → i ≤ x.length →
    Evs (fun k => spec_hasInt.l0 k x n i) (fun r => r = true ↔ ∃ j, i ≤ j ∧ j < x.length ∧ rd x j = n)
  | 0, i, hm, h0, h1 => Evs.step (fun k => by rw [spec_hasInt.l0]) (Evs.no (by omega) (Evs.ret ⟨fun q => by simp at q, fun ⟨j, a, b, _⟩ => by omega⟩))
  | m + 1, i, hm, h0, h1 => by
    refine Evs.step (fun k => by rw [spec_hasInt.l0]) (Evs.yes (by omega) (Evs.yes h0 (Evs.ite (fun h => Evs.ret ⟨fun _ => ⟨i, by omega, by omega, h⟩, fun _ => rfl⟩) (fun h => ?_))))
    rw [w64 (x := i + 1) (by omega) (by omega)]
    exact (hasInt_l0 x n hx m (i + 1) (by omega) (by omega) (by omega)).imp fun r hr => hr.trans (exists_here h)
theorem hasInt_ev (x : List Int) (n : Int) (hx : (x.length : Int) ≤ 9223372036854775807) : Evs (fun k => spec_hasInt.f k x n) (fun r => r = true ↔ n ∈ x) :=
  (hasInt_l0 x n hx _ 0 rfl (by omega) (by omega)).imp fun r hr => hr.trans mem_rd.symm
theorem Index_l0 (x : List Int) (n : Int) (hx : (x.length : Int) ≤ 9223372036854775807) : ∀ (m : Nat) (i : Int), ((x.length : Int) - i).toNat = m → 0 ≤ i → i ≤ x.length →
    Evs (fun k => slices_Index_int_int.l0 k x n x.length i) (fun r => r ≥ 0 ↔ ∃ j, i ≤ j ∧ j < x.length ∧ rd x j = n)
  | 0, i, hm, h0, h1 => Evs.step (fun k => by rw [slices_Index_int_int.l0]) (Evs.no (by omega) (Evs.ret ⟨fun q => by omega, fun ⟨j, a, b, _⟩ => by omega⟩))
  | m + 1, i, hm, h0, h1 => by
    refine Evs.step (fun k => by rw [slices_Index_int_int.l0]) (Evs.yes (by omega) (Evs.yes h0 (Evs.yes (by omega) (Evs.ite (fun h => Evs.ret ⟨fun _ => ⟨i, by omega, by omega, by exact h.symm⟩, fun _ => h0⟩) (fun h => ?_)))))
    rw [w64 (x := i + 1) (by omega) (by omega)]
    exact (Index_l0 x n hx m (i + 1) (by omega) (by omega) (by omega)).imp fun r hr => hr.trans (exists_here (P := fun j => rd x j = n) (fun e => h e.symm))
theorem Contains_ev (x : List Int) (n : Int) (hx : (x.length : Int) ≤ 9223372036854775807) : Evs (fun k => slices_Contains_int_int.f k x n) (fun r => r = true ↔ n ∈ x) := by
  unfold slices_Contains_int_int.f slices_Index_int_int.f
  refine Evs.bind (Index_l0 x n hx _ 0 rfl (by omega) (by omega)) (fun r hr => Evs.ret ?_)
  rw [decide_eq_true_iff, hr]
  exact mem_rd.symm
theorem isA_ev (t : List S51) (a b : Int) (hv : ValidT t) (ha : HasC t a) : Evs (fun k => spec_isA.f k t a b) (fun r => r = true ↔ Bel t a b) := by
  unfold spec_isA.f
  exact Evs.bind (sabove_ev t a hv ha) (fun w hw => Evs.bind (hasInt_ev w b (by have := hw.2; omega)) (fun r hr => Evs.ret (hr.trans (Bel.of_way hw.1))))
theorem Tree_is_ev (t : List S51) (a b : Int) (hv : ValidT t) (ha : HasC t a) : Evs (fun k => impl_Tree_is.f k t a b) (fun r => r = true ↔ Bel t a b) := by
  unfold impl_Tree_is.f
  exact Evs.bind (iabove_ev t a hv ha) (fun w hw => Evs.bind (Contains_ev w b (by have := hw.2; omega)) (fun r hr => Evs.ret (hr.trans (Bel.of_way hw.1))))
theorem IsA_ev (t : List S51) (a b : Int) (ht : SmallT t) : Evs (fun k => impl_IsA.f k t a b) (fun r => r = true ↔ (ValidT t ∧ Bel t a b)) := by
  unfold impl_IsA.f
  refine Evs.bind (classesIn_ev t [a, b] ht) (fun v hv => Evs.ite (fun h => ?_) (fun h => Evs.ret ⟨fun q => by simp at q, fun q => absurd (hv.2 ⟨q.1, by simpa using ⟨q.2.hasl, q.2.has⟩⟩) h⟩))
  have hg := hv.1 h
  exact Evs.bind (Tree_is_ev t a b hg.1 (hg.2 a (by simp))) (fun r hr => Evs.ret (hr.trans ⟨fun q => ⟨hg.1, q⟩, fun q => q.2⟩))
end Go.Proofs.Ytnacfppmlldbcaa.Pure
