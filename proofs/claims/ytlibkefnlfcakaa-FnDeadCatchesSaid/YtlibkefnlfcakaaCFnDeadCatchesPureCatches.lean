/- The plain proof: what the printed functions tell. Conditions: none beyond the statement's own. -/
import Derived.Test.YtlibkefnlfcakaaCFnDeadCatchesPureBelow
import Derived.Test.YtlibkefnlfcakaaCFnDeadCatchesPTx21
import Derived.Test.YtlibkefnlfcakaaCFnDeadCatchesPTx14
import Derived.Test.YtlibkefnlfcakaaCFnDeadCatchesPTx16
import Derived.Test.YtlibkefnlfcakaaCFnDeadCatchesPTx17
namespace Go.Proofs.Ytlibkefnlfcakaa.Pure
open Go.RowKit Go.Proofs.Ytlibkefnlfcakaa.PT Go.Proofs.YtlibkefnlfcakaaW.PrintWords
set_option linter.unusedVariables false
set_option linter.unusedSimpArgs false
theorem someCatches_l0 (t : List S62) (s : List Int) (hs : Bytes s) (ht : OkT t) (m : Nat) : ∀ (x6 : Int) (acc : List Int) (c : Int), x6.toNat = m → -10 ≤ x6 → x6 ≤ 10 → 0 ≤ c → c + m ≤ 890 → acc.length + m ≤ 50 →
    Evs (fun k => spec_someCatches.l0 k acc x6 s c t) (fun r => r.1.length ≤ acc.length + m + 1 ∧ 0 ≤ r.2 ∧ r.2 ≤ c + m + 5) := by
  induction m with
  | zero =>
    intro x6 acc c hm h6 h7 hc hc' hl
    refine Evs.step (fun k => by rw [spec_someCatches.l0]) (Evs.no (by omega) ?_)
    refine Evs.bind (pick_ev s c 16 hs hc (by omega)) (fun a ⟨a1, _, a2⟩ => Evs.ite (fun h => ?_) (fun h => Evs.ret ⟨by simp only; omega, by simp only; omega, by simp only; omega⟩))
    exact Evs.bind (aClass_ev s a.2 t hs (by omega) (by omega) ht) (fun b ⟨_, b1, b2⟩ => Evs.yes (by omega) (Evs.ret ⟨by simp, by simp only; omega, by simp only; omega⟩))
  | succ m ih =>
    intro x6 acc c hm h6 h7 hc hc' hl
    refine Evs.step (fun k => by rw [spec_someCatches.l0]) (Evs.yes (by omega) ?_)
    refine Evs.bind (pick_ev s c _ hs hc (by omega)) (fun a ⟨a1, _, a2⟩ => Evs.yes (by omega) ?_)
    rw [w64 (x := x6 - 1) (by omega) (by omega)]
    exact (ih (x6 - 1) _ a.2 (by omega) (by omega) (by omega) (by omega) (by omega) (by simp; omega)).imp fun r ⟨r1, r2, r3⟩ => ⟨by simp at r1; omega, r2, by omega⟩
theorem someCatches_ev (t : List S62) (s : List Int) (c : Int) (hs : Bytes s) (ht : OkT t) (hc : 0 ≤ c) (hc' : c ≤ 850) :
    Evs (fun k => spec_someCatches.f k s c t) (fun r => r.1.length ≤ 12 ∧ 0 ≤ r.2 ∧ r.2 ≤ c + 20) := by
  unfold spec_someCatches.f
  refine Evs.bind (one_ev s c _ hs hc (by omega) (by simp)) (fun a ⟨a1, a2⟩ => ?_)
  simp only [List.mem_cons, List.not_mem_nil, or_false] at a2
  exact (someCatches_l0 t s hs ht _ a.1 [] a.2 rfl (by omega) (by omega) (by omega) (by omega) (by simp; omega)).imp fun r ⟨r1, r2, r3⟩ => ⟨by simp at r1; omega, r2, by omega⟩
theorem treeCatches_ev (s : List Int) (c : Int) (hs : Bytes s) (hc : 0 ≤ c) (hc' : c ≤ 800) :
    Evs (fun k => spec_treeCatches.f k s c) (fun r => OkT r.1 ∧ r.2.1.length ≤ 12 ∧ 0 ≤ r.2.2 ∧ r.2.2 ≤ c + 50) := by
  unfold spec_treeCatches.f
  exact Evs.bind (someTree_ev s c hs hc (by omega)) (fun t ⟨t1, t2, t3⟩ => Evs.bind (someCatches_ev t.1 s t.2 hs t1 t2 (by omega)) (fun l ⟨l1, l2, l3⟩ => Evs.ret ⟨t1, l1, l2, by simp only; omega⟩))
def CatchOk (t : List S62) (l : List Int) : Prop := ValidT t ∧ (l.length : Int) ≤ 6 ∧ ∀ a ∈ l, HasC t a
theorem catchesOk_ev (t : List S62) (l : List Int) (ht : SmallT t) : Evs (fun k => impl_catchesOk.f k t l) (fun r => r = true ↔ CatchOk t l) := by
  unfold impl_catchesOk.f
  refine Evs.ite (fun h => ?_) (fun h => Evs.ret ⟨fun q => by simp at q, fun q => absurd q.2.1 h⟩)
  exact Evs.bind (classesIn_ev t l ht) (fun r hr => Evs.ret (hr.trans ⟨fun q => ⟨q.1, h, q.2⟩, fun q => ⟨q.1, q.2.2⟩⟩))
theorem goodCatches_l0 (t : List S62) (l : List Int) (ht : SmallT t) (hl : (l.length : Int) ≤ 1099511627776) (m : Nat) : ∀ (i : Int), ((l.length : Int) - i).toNat = m → 0 ≤ i → i ≤ l.length →
    Evs (fun k => spec_goodCatches.l0 k l i t) (fun r => r = true ↔ (ValidT t ∧ (l.length : Int) ≤ 6 ∧ ∀ j : Int, i ≤ j → j < l.length → HasC t (rd l j))) := by
  induction m with
  | zero =>
    intro i hm h0 h1
    refine Evs.step (fun k => by rw [spec_goodCatches.l0]) (Evs.no (by omega) (Evs.bind (validTree_ev t ht) (fun v hv => Evs.ite (fun h => Evs.ret ?_) (fun h => Evs.ret ⟨fun q => by simp at q, fun q => absurd (hv.2 q.1) h⟩))))
    rw [decide_eq_true_iff]
    exact ⟨fun q => ⟨hv.1 h, q, fun j j0 j1 => by omega⟩, fun q => q.2.1⟩
  | succ m ih =>
    intro i hm h0 h1
    have hi : i < (l.length : Int) := by omega
    refine Evs.step (fun k => by rw [spec_goodCatches.l0]) (Evs.yes hi (Evs.yes h0 (Evs.bind (hasClass_ev t _ ht) (fun v hv => Evs.ite (fun h => ?_) (fun h => Evs.ret ⟨fun q => by simp at q, fun q => absurd (hv.2 (q.2.2 i (by omega) hi)) h⟩)))))
    rw [w64 (x := i + 1) (by omega) (by omega)]
    exact (ih (i + 1) (by omega) (by omega) (by omega)).imp fun r hr => hr.trans ⟨fun ⟨a, b, c⟩ => ⟨a, b, from_here (P := fun j => HasC t (rd l j)) (hv.1 h) c⟩, fun ⟨a, b, c⟩ => ⟨a, b, fun j j0 j1 => c j (by omega) j1⟩⟩
theorem goodCatches_ev (t : List S62) (l : List Int) (ht : SmallT t) (hl : (l.length : Int) ≤ 1099511627776) : Evs (fun k => spec_goodCatches.f k t l) (fun r => r = true ↔ CatchOk t l) :=
  (goodCatches_l0 t l ht hl _ 0 rfl (by omega) (by omega)).imp fun r hr => hr.trans ⟨fun ⟨a, b, c⟩ => ⟨a, b, fun x hx => by obtain ⟨j, j0, j1, rfl⟩ := mem_rd.1 hx; exact c j j0 j1⟩, fun ⟨a, b, c⟩ => ⟨a, b, fun j j0 j1 => c _ (rd_mem j0 j1)⟩⟩
def FirstC (t : List S62) (l : List Int) (a r : Int) : Prop :=
  (r = -1 ∧ ∀ b ∈ l, ¬ Bel t a b) ∨ (0 ≤ r ∧ r < l.length ∧ Bel t a (rd l r) ∧ ∀ j : Int, 0 ≤ j → j < r → ¬ Bel t a (rd l j))
theorem FirstC.uniq {t : List S62} {l : List Int} {a r s : Int} (h : FirstC t l a r) (k : FirstC t l a s) : r = s := by
  rcases h with ⟨h1, h2⟩ | ⟨h1, h2, h3, h4⟩ <;> rcases k with ⟨k1, k2⟩ | ⟨k1, k2, k3, k4⟩
  · omega
  · exact absurd k3 (h2 _ (rd_mem k1 k2))
  · exact absurd h3 (k2 _ (rd_mem h1 h2))
  · by_cases hlt : r < s
    · exact absurd h3 (k4 r h1 hlt)
    · by_cases hlt' : s < r
      · exact absurd k3 (h4 s k1 hlt')
      · omega
theorem Tree_first_ev (t : List S62) (l : List Int) (a : Int) (hv : ValidT t) (ha : HasC t a) : Evs (fun k => impl_Tree_first.f k t l a) (FirstC t l a) := by
  unfold impl_Tree_first.f
  refine (idxO_evs (fun k b => impl_Tree_is.f k t a b) (fun b => Bel t a b) 0 l 0 (fun b _ => Tree_is_ev t a b hv ha)).imp fun r hr => ?_
  rcases hr with ⟨h1, h2⟩ | ⟨h1, h2, h3, h4⟩
  · exact .inl ⟨h1, h2⟩
  · rw [Int.sub_zero] at h3 h4
    exact .inr ⟨h1, by omega, h3, fun j j0 j1 => h4 j j0 j1⟩
def FirstR (t : List S62) (l : List Int) (a r : Int) : Prop := ((CatchOk t l ∧ HasC t a) ∧ FirstC t l a r) ∨ (¬ (CatchOk t l ∧ HasC t a) ∧ r = -2)
theorem FirstR.uniq {t : List S62} {l : List Int} {a r s : Int} (h : FirstR t l a r) (k : FirstR t l a s) : r = s := by
  rcases h with ⟨h1, h2⟩ | ⟨h1, h2⟩ <;> rcases k with ⟨k1, k2⟩ | ⟨k1, k2⟩
  · exact h2.uniq k2
  · exact absurd h1 k1
  · exact absurd k1 h1
  · omega
theorem FirstCatch_ev (t : List S62) (l : List Int) (a : Int) (ht : SmallT t) : Evs (fun k => impl_FirstCatch.f k t l a) (FirstR t l a) := by
  unfold impl_FirstCatch.f
  refine Evs.bind (catchesOk_ev t l ht) (fun v hv => Evs.ite (fun h => ?_) (fun h => Evs.ret (.inr ⟨fun q => h (hv.2 q.1), rfl⟩)))
  have hg := hv.1 h
  refine Evs.bind (Evs.const (P := fun x => x = true ↔ HasC t a) (has_eq t a ht) decide_eq_true_iff) (fun c hc => Evs.ite (fun h' => ?_) (fun h' => Evs.ret (.inr ⟨fun q => h' (hc.2 q.2), rfl⟩)))
  exact Evs.bind (Tree_first_ev t l a hg.1 (hc.1 h')) (fun r hr => Evs.ret (.inl ⟨⟨hg, hc.1 h'⟩, hr⟩))
def Caught (t : List S62) (l : List Int) (a : Int) : Prop := ∃ b ∈ l, Bel t a b
noncomputable instance Caught.dec (t : List S62) (l : List Int) (a : Int) : Decidable (Caught t l a) := Classical.propDecidable _
theorem FirstC.caught {t : List S62} {l : List Int} {a r : Int} (h : FirstC t l a r) : 0 ≤ r ↔ Caught t l a := by
  rcases h with ⟨h1, h2⟩ | ⟨h1, h2, h3, h4⟩
  · exact ⟨fun q => by omega, fun ⟨b, hb, q⟩ => absurd q (h2 b hb)⟩
  · exact ⟨fun _ => ⟨_, rd_mem h1 h2, h3⟩, fun _ => h1⟩
def CaughtR (t : List S62) (l r : List Int) : Prop := (CatchOk t l ∧ r = sel (Caught t l) 0 t.length) ∨ (¬ CatchOk t l ∧ r = [])
theorem CaughtR.len {t : List S62} {l r : List Int} (h : CaughtR t l r) : (r.length : Int) ≤ 8 := by
  rcases h with ⟨h1, h2⟩ | ⟨h1, h2⟩
  · have := h1.1.1
    have := sel_length (Caught t l) t.length 0
    rw [h2]; omega
  · rw [h2]; simp
end Go.Proofs.Ytlibkefnlfcakaa.Pure
