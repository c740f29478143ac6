/- The plain proof: what the printed functions tell. Conditions: none beyond the statement's own. -/
import Derived.Test.YtlibkefnlfcakaaCFnAddClassCatchPureBelow
import Derived.Test.YtlibkefnlfcakaaCFnAddClassCatchPTx0
import Derived.Test.YtlibkefnlfcakaaCFnAddClassCatchPTx2
import Derived.Test.YtlibkefnlfcakaaCFnAddClassCatchPTx4
import Derived.Test.YtlibkefnlfcakaaCFnAddClassCatchPTx14
import Derived.Test.YtlibkefnlfcakaaCFnAddClassCatchPTx8
import Derived.Test.YtlibkefnlfcakaaCFnAddClassCatchPTx6
import Derived.Test.YtlibkefnlfcakaaCFnAddClassCatchPTx7
namespace Go.Proofs.Ytlibkefnlfcakaa.Pure
open Go.RowKit Go.Proofs.Ytlibkefnlfcakaa.PT Go.Proofs.YtlibkefnlfcakaaW.PrintWords
set_option linter.unusedVariables false
set_option linter.unusedSimpArgs false
def CatchOk (t : List S62) (l : List Int) : Prop := ValidT t ∧ (l.length : Int) ≤ 6 ∧ ∀ a ∈ l, HasC t a
theorem catchesOk_ev (t : List S62) (l : List Int) (ht : SmallT t) : Evs (fun k => impl_catchesOk.f k t l) (fun r => r = true ↔ CatchOk t l) := by
  unfold impl_catchesOk.f
  refine Evs.ite (fun h => ?_) (fun h => Evs.ret ⟨fun q => by simp at q, fun q => absurd q.2.1 h⟩)
  exact Evs.bind (classesIn_ev t l ht) (fun r hr => Evs.ret (hr.trans ⟨fun q => ⟨q.1, h, q.2⟩, fun q => ⟨q.1, q.2.2⟩⟩))
def FirstC (t : List S62) (l : List Int) (a r : Int) : Prop :=
  (r = -1 ∧ ∀ b ∈ l, ¬ Bel t a b) ∨ (0 ≤ r ∧ r < l.length ∧ Bel t a (rd l r) ∧ ∀ j : Int, 0 ≤ j → j < r → ¬ Bel t a (rd l j))
theorem FirstC.uniq {t : List S62} {l : List Int} {a r s : Int} (h : FirstC t l a r) (k : FirstC t l a s) : r = s := by
  rcases h with ⟨h1, h2⟩ | ⟨h1, h2, h3, h4⟩ <;> rcases k with ⟨k1, k2⟩ | ⟨k1, k2, k3, k4⟩
  · omega
  · exact absurd k3 (h2 _ (rd_mem k1 k2))
  · exact absurd h3 (k2 _ (rd_mem h1 h2))
  · by_cases hlt : r < s
    · exact absurd h3 (k4 r h1 hlt)
    · by_cases hlt' : s < r
      · exact absurd k3 (h4 s k1 hlt')
      · omega
theorem Tree_first_ev (t : List S62) (l : List Int) (a : Int) (hv : ValidT t) (ha : HasC t a) : Evs (fun k => impl_Tree_first.f k t l a) (FirstC t l a) := by
  unfold impl_Tree_first.f
  refine (idxO_evs (fun k b => impl_Tree_is.f k t a b) (fun b => Bel t a b) 0 l 0 (fun b _ => Tree_is_ev t a b hv ha)).imp fun r hr => ?_
  rcases hr with ⟨h1, h2⟩ | ⟨h1, h2, h3, h4⟩
  · exact .inl ⟨h1, h2⟩
  · rw [Int.sub_zero] at h3 h4
    exact .inr ⟨h1, by omega, h3, fun j j0 j1 => h4 j j0 j1⟩
def FirstR (t : List S62) (l : List Int) (a r : Int) : Prop := ((CatchOk t l ∧ HasC t a) ∧ FirstC t l a r) ∨ (¬ (CatchOk t l ∧ HasC t a) ∧ r = -2)
theorem FirstR.uniq {t : List S62} {l : List Int} {a r s : Int} (h : FirstR t l a r) (k : FirstR t l a s) : r = s := by
  rcases h with ⟨h1, h2⟩ | ⟨h1, h2⟩ <;> rcases k with ⟨k1, k2⟩ | ⟨k1, k2⟩
  · exact h2.uniq k2
  · exact absurd h1 k1
  · exact absurd k1 h1
  · omega
def Caught (t : List S62) (l : List Int) (a : Int) : Prop := ∃ b ∈ l, Bel t a b
noncomputable instance Caught.dec (t : List S62) (l : List Int) (a : Int) : Decidable (Caught t l a) := Classical.propDecidable _
theorem FirstC.caught {t : List S62} {l : List Int} {a r : Int} (h : FirstC t l a r) : 0 ≤ r ↔ Caught t l a := by
  rcases h with ⟨h1, h2⟩ | ⟨h1, h2, h3, h4⟩
  · exact ⟨fun q => by omega, fun ⟨b, hb, q⟩ => absurd q (h2 b hb)⟩
  · exact ⟨fun _ => ⟨_, rd_mem h1 h2, h3⟩, fun _ => h1⟩
def CaughtR (t : List S62) (l r : List Int) : Prop := (CatchOk t l ∧ r = sel (Caught t l) 0 t.length) ∨ (¬ CatchOk t l ∧ r = [])
theorem CaughtR.len {t : List S62} {l r : List Int} (h : CaughtR t l r) : (r.length : Int) ≤ 8 := by
  rcases h with ⟨h1, h2⟩ | ⟨h1, h2⟩
  · have := h1.1.1
    have := sel_length (Caught t l) t.length 0
    rw [h2]; omega
  · rw [h2]; simp
theorem CaughtBy_ev (t : List S62) (l : List Int) (ht : SmallT t) : Evs (fun k => impl_CaughtBy.f k t l) (CaughtR t l) := by
  unfold impl_CaughtBy.f
  refine Evs.bind (catchesOk_ev t l ht) (fun v hv => Evs.ite (fun h => ?_) (fun h => Evs.ret (.inr ⟨fun q => h (hv.2 q), rfl⟩)))
  have hg := hv.1 h
  refine (filter_ev t (fun k a => impl_CaughtBy.p k t l a) (Caught t l) ht.1 (fun x hx => ?_)).imp fun r hr => .inl ⟨hg, hr⟩
  unfold impl_CaughtBy.p
  exact Evs.bind (Tree_first_ev t l x hg.1 hx) (fun r hr => Evs.ret (decide_eq_true_iff.trans hr.caught))
end Go.Proofs.Ytlibkefnlfcakaa.Pure
