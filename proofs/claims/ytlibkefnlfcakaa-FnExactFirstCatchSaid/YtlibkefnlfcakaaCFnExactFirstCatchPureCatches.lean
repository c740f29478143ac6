/- The plain proof: what the printed functions tell. Conditions: none beyond the statement's own. -/
import Derived.Test.YtlibkefnlfcakaaCFnExactFirstCatchPureBelow
import Derived.Test.YtlibkefnlfcakaaCFnExactFirstCatchPTx0
import Derived.Test.YtlibkefnlfcakaaCFnExactFirstCatchPTx2
import Derived.Test.YtlibkefnlfcakaaCFnExactFirstCatchPTx4
import Derived.Test.YtlibkefnlfcakaaCFnExactFirstCatchPTx14
import Derived.Test.YtlibkefnlfcakaaCFnExactFirstCatchPTx18
import Derived.Test.YtlibkefnlfcakaaCFnExactFirstCatchPTx16
import Derived.Test.YtlibkefnlfcakaaCFnExactFirstCatchPTx17
namespace Go.Proofs.Ytlibkefnlfcakaa.Pure
open Go.RowKit Go.Proofs.Ytlibkefnlfcakaa.PT Go.Proofs.YtlibkefnlfcakaaW.PrintWords
set_option linter.unusedVariables false
set_option linter.unusedSimpArgs false
def CatchOk (t : List S62) (l : List Int) : Prop := ValidT t ∧ (l.length : Int) ≤ 6 ∧ ∀ a ∈ l, HasC t a
theorem catchesOk_ev (t : List S62) (l : List Int) (ht : SmallT t) : Evs (fun k => impl_catchesOk.f k t l) (fun r => r = true ↔ CatchOk t l) := by
  unfold impl_catchesOk.f
  refine Evs.ite (fun h => ?_) (fun h => Evs.ret ⟨fun q => by simp at q, fun q => absurd q.2.1 h⟩)
  exact Evs.bind (classesIn_ev t l ht) (fun r hr => Evs.ret (hr.trans ⟨fun q => ⟨q.1, h, q.2⟩, fun q => ⟨q.1, q.2.2⟩⟩))
theorem goodCatches_l0 (t : List S62) (l : List Int) (ht : SmallT t) (hl : (l.length : Int) ≤ 1099511627776) (m : Nat) : ∀ (i : Int), ((l.length : Int) - i).toNat = m → 0 ≤ i → i ≤ l.length →
    Evs (fun k => spec_goodCatches.l0 k l i t) (fun r => r = true ↔ (ValidT t ∧ (l.length : Int) ≤ 6 ∧ ∀ j : Int, i ≤ j → j < l.length → HasC t (rd l j))) := by
  induction m with
  | zero =>
    intro i hm h0 h1
    refine Evs.step (fun k => by rw [spec_goodCatches.l0]) (Evs.no (by omega) (Evs.bind (validTree_ev t ht) (fun v hv => Evs.ite (fun h => Evs.ret ?_) (fun h => Evs.ret ⟨fun q => by simp at q, fun q => absurd (hv.2 q.1) h⟩))))
    rw [decide_eq_true_iff]
    exact ⟨fun q => ⟨hv.1 h, q, fun j j0 j1 => by omega⟩, fun q => q.2.1⟩
  | succ m ih =>
    intro i hm h0 h1
    have hi : i < (l.length : Int) := by omega
    refine Evs.step (fun k => by rw [spec_goodCatches.l0]) (Evs.yes hi (Evs.yes h0 (Evs.bind (hasClass_ev t _ ht) (fun v hv => Evs.ite (fun h => ?_) (fun h => Evs.ret ⟨fun q => by simp at q, fun q => absurd (hv.2 (q.2.2 i (by omega) hi)) h⟩)))))
    rw [w64 (x := i + 1) (by omega) (by omega)]
    exact (ih (i + 1) (by omega) (by omega) (by omega)).imp fun r hr => hr.trans ⟨fun ⟨a, b, c⟩ => ⟨a, b, from_here (P := fun j => HasC t (rd l j)) (hv.1 h) c⟩, fun ⟨a, b, c⟩ => ⟨a, b, fun j j0 j1 => c j (by omega) j1⟩⟩
theorem goodCatches_ev (t : List S62) (l : List Int) (ht : SmallT t) (hl : (l.length : Int) ≤ 1099511627776) : Evs (fun k => spec_goodCatches.f k t l) (fun r => r = true ↔ CatchOk t l) :=
  (goodCatches_l0 t l ht hl _ 0 rfl (by omega) (by omega)).imp fun r hr => hr.trans ⟨fun ⟨a, b, c⟩ => ⟨a, b, fun x hx => by obtain ⟨j, j0, j1, rfl⟩ := mem_rd.1 hx; exact c j j0 j1⟩, fun ⟨a, b, c⟩ => ⟨a, b, fun j j0 j1 => c _ (rd_mem j0 j1)⟩⟩
def FirstC (t : List S62) (l : List Int) (a r : Int) : Prop :=
  (r = -1 ∧ ∀ b ∈ l, ¬ Bel t a b) ∨ (0 ≤ r ∧ r < l.length ∧ Bel t a (rd l r) ∧ ∀ j : Int, 0 ≤ j → j < r → ¬ Bel t a (rd l j))
theorem FirstC.uniq {t : List S62} {l : List Int} {a r s : Int} (h : FirstC t l a r) (k : FirstC t l a s) : r = s := by
  rcases h with ⟨h1, h2⟩ | ⟨h1, h2, h3, h4⟩ <;> rcases k with ⟨k1, k2⟩ | ⟨k1, k2, k3, k4⟩
  · omega
  · exact absurd k3 (h2 _ (rd_mem k1 k2))
  · exact absurd h3 (k2 _ (rd_mem h1 h2))
  · by_cases hlt : r < s
    · exact absurd h3 (k4 r h1 hlt)
    · by_cases hlt' : s < r
      · exact absurd k3 (h4 s k1 hlt')
      · omega
theorem Tree_first_ev (t : List S62) (l : List Int) (a : Int) (hv : ValidT t) (ha : HasC t a) : Evs (fun k => impl_Tree_first.f k t l a) (FirstC t l a) := by
  unfold impl_Tree_first.f
  refine (idxO_evs (fun k b => impl_Tree_is.f k t a b) (fun b => Bel t a b) 0 l 0 (fun b _ => Tree_is_ev t a b hv ha)).imp fun r hr => ?_
  rcases hr with ⟨h1, h2⟩ | ⟨h1, h2, h3, h4⟩
  · exact .inl ⟨h1, h2⟩
  · rw [Int.sub_zero] at h3 h4
    exact .inr ⟨h1, by omega, h3, fun j j0 j1 => h4 j j0 j1⟩
def FirstR (t : List S62) (l : List Int) (a r : Int) : Prop := ((CatchOk t l ∧ HasC t a) ∧ FirstC t l a r) ∨ (¬ (CatchOk t l ∧ HasC t a) ∧ r = -2)
theorem FirstR.uniq {t : List S62} {l : List Int} {a r s : Int} (h : FirstR t l a r) (k : FirstR t l a s) : r = s := by
  rcases h with ⟨h1, h2⟩ | ⟨h1, h2⟩ <;> rcases k with ⟨k1, k2⟩ | ⟨k1, k2⟩
  · exact h2.uniq k2
  · exact absurd h1 k1
  · exact absurd k1 h1
  · omega
theorem FirstCatch_ev (t : List S62) (l : List Int) (a : Int) (ht : SmallT t) : Evs (fun k => impl_FirstCatch.f k t l a) (FirstR t l a) := by
  unfold impl_FirstCatch.f
  refine Evs.bind (catchesOk_ev t l ht) (fun v hv => Evs.ite (fun h => ?_) (fun h => Evs.ret (.inr ⟨fun q => h (hv.2 q.1), rfl⟩)))
  have hg := hv.1 h
  refine Evs.bind (Evs.const (P := fun x => x = true ↔ HasC t a) (has_eq t a ht) decide_eq_true_iff) (fun c hc => Evs.ite (fun h' => ?_) (fun h' => Evs.ret (.inr ⟨fun q => h' (hc.2 q.2), rfl⟩)))
  exact Evs.bind (Tree_first_ev t l a hg.1 (hc.1 h')) (fun r hr => Evs.ret (.inl ⟨⟨hg, hc.1 h'⟩, hr⟩))
def Caught (t : List S62) (l : List Int) (a : Int) : Prop := ∃ b ∈ l, Bel t a b
noncomputable instance Caught.dec (t : List S62) (l : List Int) (a : Int) : Decidable (Caught t l a) := Classical.propDecidable _
def CaughtR (t : List S62) (l r : List Int) : Prop := (CatchOk t l ∧ r = sel (Caught t l) 0 t.length) ∨ (¬ CatchOk t l ∧ r = [])
theorem CaughtR.len {t : List S62} {l r : List Int} (h : CaughtR t l r) : (r.length : Int) ≤ 8 := by
  rcases h with ⟨h1, h2⟩ | ⟨h1, h2⟩
  · have := h1.1.1
    have := sel_length (Caught t l) t.length 0
    rw [h2]; omega
  · rw [h2]; simp
end Go.Proofs.Ytlibkefnlfcakaa.Pure
