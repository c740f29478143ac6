/- The plain proof: what the printed functions tell. Conditions: none beyond the statement's own. -/
import Derived.Test.YtlibkefnlfcakaaCFnDeadCatchesPureFnFirstCatch
import Derived.Test.YtlibkefnlfcakaaCFnDeadCatchesPTx22
import Derived.Test.YtlibkefnlfcakaaCFnDeadCatchesPTx21
import Derived.Test.YtlibkefnlfcakaaCFnDeadCatchesPTx23
namespace Go.Proofs.Ytlibkefnlfcakaa.Pure
open Go.RowKit Go.Proofs.Ytlibkefnlfcakaa.PT Go.Proofs.YtlibkefnlfcakaaW.PrintWords Go.Proofs.YtlibkefnlfcakaaW.PrintLast
set_option linter.unusedVariables false
set_option linter.unusedSimpArgs false
def Dead (t : List S62) (l : List Int) (i : Int) : Prop := ∃ j : Int, 0 ≤ j ∧ j < i ∧ Bel t (rd l i) (rd l j)
noncomputable instance Dead.dec (t : List S62) (l : List Int) (i : Int) : Decidable (Dead t l i) := Classical.propDecidable _
def DeadR (t : List S62) (l r : List Int) : Prop := (CatchOk t l ∧ r = sel (Dead t l) 0 l.length) ∨ (¬ CatchOk t l ∧ r = [])
theorem DeadR.uniq {t : List S62} {l r s : List Int} (h : DeadR t l r) (k : DeadR t l s) : r = s := by
  rcases h with ⟨h1, h2⟩ | ⟨h1, h2⟩ <;> rcases k with ⟨k1, k2⟩ | ⟨k1, k2⟩
  · rw [h2, k2]
  · exact absurd h1 k1
  · exact absurd k1 h1
  · rw [h2, k2]
theorem DeadR.len {t : List S62} {l r : List Int} (h : DeadR t l r) : (r.length : Int) ≤ 8 := by
  rcases h with ⟨h1, h2⟩ | ⟨h1, h2⟩
  · have := h1.2.1
    have := sel_length (Dead t l) l.length 0
    rw [h2]; omega
  · rw [h2]; simp
theorem rd_take (l : List Int) {i j : Int} (h0 : 0 ≤ j) (h : j < i) (hi : i ≤ l.length) : rd (l.take i.toNat) j = rd l j := by
  unfold rd
  rw [getD_nat _ _ _ (by simp; omega), getD_nat _ _ _ (by omega)]
  simp
theorem dead_first {t : List S62} {l : List Int} {i f : Int} (h0 : 0 ≤ i) (hi : i ≤ l.length) (h : FirstC t (l.take i.toNat) (rd l i) f) : f ≥ 0 ↔ Dead t l i := by
  rw [ge_iff_le, h.caught]
  constructor
  · rintro ⟨b, hb, q⟩
    obtain ⟨j, j0, j1, rfl⟩ := mem_rd.1 hb
    have hj : j < i := by simp at j1; omega
    exact ⟨j, j0, hj, by rw [rd_take l j0 hj hi] at q; exact q⟩
  · rintro ⟨j, j0, j1, q⟩
    exact ⟨rd l j, mem_rd.2 ⟨j, j0, by simp; omega, rd_take l j0 j1 hi⟩, q⟩
theorem iDead_l0 (t : List S62) (l : List Int) (hg : CatchOk t l) (m : Nat) : ∀ (i : Int) (acc : List Int), ((l.length : Int) - i).toNat = m → 0 ≤ i → i ≤ l.length → acc.length + m ≤ 50 →
    Evs (fun k => impl_DeadCatches.l0 k l acc l l.length i t) (fun r => r = acc ++ sel (Dead t l) i m) := by
  have h6 := hg.2.1
  induction m with
  | zero =>
    intro i acc hm h0 h1 ha
    exact Evs.step (fun k => by rw [impl_DeadCatches.l0]) (Evs.no (by omega) (Evs.ret (by simp [sel])))
  | succ m ih =>
    intro i acc hm h0 h1 ha
    have hi : i < (l.length : Int) := by omega
    refine Evs.step (fun k => by rw [impl_DeadCatches.l0]) (Evs.yes hi (Evs.yes h0 (Evs.yes hi (Evs.yes h1 (Evs.bind (Tree_first_ev t _ _ hg.1 (hg.2.2 _ (rd_mem h0 hi))) (fun f hf => ?_))))))
    rw [w64 (x := i + 1) (by omega) (by omega)]
    have e := dead_first h0 h1 hf
    unfold sel
    refine Evs.ite (fun h => Evs.yes (by omega) ?_) (fun h => ?_)
    · rw [if_pos (e.1 h)]
      exact (ih (i + 1) _ (by omega) (by omega) (by omega) (by simp; omega)).imp fun r hr => by rw [hr]; simp
    · rw [if_neg (fun q => h (e.2 q))]
      exact ih (i + 1) acc (by omega) (by omega) (by omega) (by omega)
theorem DeadCatches_ev (t : List S62) (l : List Int) (ht : SmallT t) : Evs (fun k => impl_DeadCatches.f k t l) (DeadR t l) := by
  unfold impl_DeadCatches.f
  refine Evs.bind (catchesOk_ev t l ht) (fun v hv => Evs.ite (fun h => ?_) (fun h => Evs.ret (.inr ⟨fun q => h (hv.2 q), rfl⟩)))
  have hg := hv.1 h
  have := hg.2.1
  exact Evs.yes (by omega) (Evs.yes (by omega) ((iDead_l0 t l hg l.length 0 [] (by omega) (by omega) (by omega) (by simp; omega)).imp fun r hr => .inl ⟨hg, by rw [hr]; simp⟩))
theorem sDead_l0 (t : List S62) (l : List Int) (hg : CatchOk t l) (m : Nat) : ∀ (i : Int) (acc : List Int), ((l.length : Int) - i).toNat = m → 0 ≤ i → i ≤ l.length → acc.length + m ≤ 50 →
    Evs (fun k => spec_deadCatches.l0 k l acc i t) (fun r => r = acc ++ sel (Dead t l) i m) := by
  have h6 := hg.2.1
  induction m with
  | zero =>
    intro i acc hm h0 h1 ha
    exact Evs.step (fun k => by rw [spec_deadCatches.l0]) (Evs.no (by omega) (Evs.ret (by simp [sel])))
  | succ m ih =>
    intro i acc hm h0 h1 ha
    have hi : i < (l.length : Int) := by omega
    refine Evs.step (fun k => by rw [spec_deadCatches.l0]) (Evs.yes hi (Evs.yes h0 (Evs.yes h1 (Evs.bind (firstCatch_ev t _ _ hg.1 (hg.2.2 _ (rd_mem h0 hi)) (by simp; omega)) (fun f hf => ?_)))))
    rw [w64 (x := i + 1) (by omega) (by omega)]
    have e := dead_first h0 h1 hf
    unfold sel
    refine Evs.ite (fun h => Evs.yes (by omega) ?_) (fun h => ?_)
    · rw [if_pos (e.1 h)]
      exact (ih (i + 1) _ (by omega) (by omega) (by omega) (by simp; omega)).imp fun r hr => by rw [hr]; simp
    · rw [if_neg (fun q => h (e.2 q))]
      exact ih (i + 1) acc (by omega) (by omega) (by omega) (by omega)
theorem sDeadCatches_ev (t : List S62) (l : List Int) (ht : SmallT t) (hl : (l.length : Int) ≤ 1099511627776) : Evs (fun k => spec_DeadCatches.f k t l) (DeadR t l) := by
  unfold spec_DeadCatches.f spec_deadCatches.f
  refine Evs.bind (goodCatches_ev t l ht hl) (fun v hv => Evs.ite (fun h => ?_) (fun h => Evs.ret (.inr ⟨fun q => h (hv.2 q), rfl⟩)))
  have hg := hv.1 h
  have := hg.2.1
  exact Evs.bind (sDead_l0 t l hg l.length 0 [] (by omega) (by omega) (by omega) (by simp; omega)) (fun r hr => Evs.ret (.inl ⟨hg, by rw [hr]; simp⟩))
theorem draw_DeadCatches (l : List Int) (h : Bytes l) : Evs (fun k => spec_DrawDeadCatches.f k l) (fun r => OkT r.1 ∧ r.2.length ≤ 12) := by
  unfold spec_DrawDeadCatches.f
  obtain ⟨r, h1, h2, h3⟩ := newReader_ev l h
  refine Evs.bind (Evs.const (P := fun x => x = r) h1 rfl) (fun _ e => ?_)
  subst e
  exact Evs.bind (treeCatches_ev _ _ h2 (by omega) (by omega)) (fun t ⟨t1, t2, _⟩ => Evs.ret ⟨t1, t2⟩)
theorem pairwise_rd {xs : List Int} (h : xs.Pairwise (· < ·)) {i j : Int} (h0 : 0 ≤ i) (h1 : i < j) (h2 : j < xs.length) : rd xs i < rd xs j := by
  unfold rd
  rw [getD_nat _ _ _ (by omega), getD_nat _ _ _ (by omega)]
  exact List.pairwise_iff_getElem.1 h i.toNat j.toNat (by omega) (by omega) (by omega)
theorem ascends_l0 (x : List Int) (hx : (x.length : Int) ≤ 1099511627776) (hs : x.Pairwise (· < ·)) : ∀ (m : Nat) (i : Int), ((x.length : Int) - i).toNat = m → 1 ≤ i →
    Evs (fun k => laws_ascends.l0 k x i) (fun r => r = true)
  | 0, i, hm, h0 => Evs.step (fun k => by rw [laws_ascends.l0]) (Evs.no (by omega) (Evs.ret rfl))
  | m + 1, i, hm, h0 => by
    refine Evs.step (fun k => by rw [laws_ascends.l0]) (Evs.yes (by omega) ?_)
    rw [w64 (x := i - 1) (by omega) (by omega), w64 (x := i + 1) (by omega) (by omega)]
    have := pairwise_rd hs (i := i - 1) (j := i) (by omega) (by omega) (by omega)
    exact Evs.yes (by omega) (Evs.yes (by omega) (Evs.yes (by omega) (Evs.no (by omega) (ascends_l0 x hx hs m (i + 1) (by omega) (by omega)))))
theorem ascends_ev (x : List Int) (hx : (x.length : Int) ≤ 1099511627776) (hs : x.Pairwise (· < ·)) : Evs (fun k => laws_ascends.f k x) (fun r => r = true) :=
  ascends_l0 x hx hs _ 1 rfl (by omega)
theorem FnDeadCatches_l1 (t : List S62) (l r : List Int) (ht : OkT t) (hg : CatchOk t l) (hr : r = sel (Dead t l) 0 l.length) (hrl : (r.length : Int) ≤ 8) (m : Nat) : ∀ (i : Int), ((l.length : Int) - i).toNat = m → 0 ≤ i → i ≤ l.length →
    Evs (fun k => laws_FnDeadCatches.l1 k l r i t) (fun b => b = true) := by
  have h6 := hg.2.1
  induction m with
  | zero =>
    intro i hm h0 h1
    refine Evs.step (fun k => by rw [laws_FnDeadCatches.l1]) (Evs.no (by omega) (Evs.bind (ascends_ev r (by omega) (by rw [hr]; exact sel_sorted _ _ _)) (fun c hc => Evs.ret hc)))
  | succ m ih =>
    intro i hm h0 h1
    have hi : i < (l.length : Int) := by omega
    have go := ih (i + 1) (by omega) (by omega) (by omega)
    refine Evs.step (fun k => by rw [laws_FnDeadCatches.l1]) (Evs.yes hi ?_)
    rw [w64 (x := i + 1) (by omega) (by omega)]
    refine Evs.bind (isIn_ev r i (by omega)) (fun c hc => Evs.ite (fun _ => go) (fun h => Evs.yes h0 ?_))
    have hL := hg.2.2 _ (rd_mem h0 hi)
    refine Evs.bind (FirstCatch_ev t l (rd l i) ht.small) (fun f hf => Evs.yes ?_ go)
    rcases hf with ⟨_, hf⟩ | ⟨hn, _⟩
    · refine hf.uniq (.inr ⟨h0, hi, Bel.refl hg.1 hL, fun j j0 j1 q => h (hc.2 ?_)⟩)
      rw [hr, mem_sel]
      exact ⟨h0, by omega, j, j0, j1, q⟩
    · exact absurd ⟨hg, hL⟩ hn
theorem FnDeadCatches_l0 (t : List S62) (l r : List Int) (ht : OkT t) (hg : CatchOk t l) (hr : r = sel (Dead t l) 0 l.length) (hrl : (r.length : Int) ≤ 8) (m : Nat) : ∀ (i : Int), ((t.length : Int) - i).toNat = m → 0 ≤ i → i ≤ t.length →
    Evs (fun k => laws_FnDeadCatches.l0 k l r i t) (fun b => b = true) := by
  have htl := ht.1
  induction m with
  | zero =>
    intro i hm h0 h1
    exact Evs.step (fun k => by rw [laws_FnDeadCatches.l0]) (Evs.no (by omega) (FnDeadCatches_l1 t l r ht hg hr hrl _ 0 rfl (by omega) (by omega)))
  | succ m ih =>
    intro i hm h0 h1
    have hi : i < (t.length : Int) := by omega
    refine Evs.step (fun k => by rw [laws_FnDeadCatches.l0]) (Evs.yes hi (Evs.bind (FirstCatch_ev t l i ht.small) (fun f hf => Evs.bind (isIn_ev r f (by omega)) (fun c hc => Evs.no (fun q => ?_) ?_))))
    · have hm' := hc.1 q
      rw [hr, mem_sel] at hm'
      obtain ⟨f0, f1, j, j0, j1, hb⟩ := hm'
      rcases hf with ⟨_, hf⟩ | ⟨hn, _⟩
      · rcases hf with ⟨e, _⟩ | ⟨_, _, g3, g4⟩
        · omega
        · exact g4 j j0 j1 (g3.trans hb)
      · exact hn ⟨hg, h0, hi⟩
    · rw [w64 (x := i + 1) (by omega) (by omega)]
      exact ih (i + 1) (by omega) (by omega) (by omega)
theorem FnDeadCatches_j0 (t : List S62) (l r : List Int) (x : Bool) (ht : OkT t) (hl : l.length ≤ 12) (hr : DeadR t l r) (hx : x = false → CatchOk t l) :
    Evs (fun k => laws_FnDeadCatches.j0 k l r x t) (fun b => b = true) := by
  have sm := ht.small
  have hrl := hr.len
  refine Evs.step (fun k => by rw [laws_FnDeadCatches.j0]) (Evs.ite (fun h => ?_) (fun h => ?_))
  · exact Evs.bind (sDeadCatches_ev t l sm (by omega)) (fun s hs => Evs.bind (equalInts_ev r s (by omega)) (fun e he => Evs.ret (he.2 (hr.uniq hs))))
  · have hg := hx (by simpa using h)
    rcases hr with ⟨_, hr⟩ | ⟨hn, _⟩
    · exact FnDeadCatches_l0 t l r ht hg hr hrl _ 0 rfl (by omega) (by omega)
    · exact absurd hg hn
theorem FnDeadCatches : laws_FnDeadCatches.Pure := by
  intro l h0 h1 h2
  apply Evs.done
  unfold laws_FnDeadCatches.f
  refine Evs.ite (fun _ => Evs.ret rfl) (fun _ => ?_)
  refine Evs.bind (draw_DeadCatches l (bytes_of_wf h2)) (fun t ⟨ht, hl⟩ => Evs.bind (DeadCatches_ev _ _ ht.small) (fun a ha => Evs.bind (sDeadCatches_ev _ _ ht.small (by omega)) (fun b hb => ?_)))
  have hal := ha.len
  refine Evs.bind (equalInts_ev a b (by omega)) (fun c hc => Evs.ite (fun h => ?_) (fun h => ?_))
  · refine Evs.bind (FirstCatch_ev _ _ 0 ht.small) (fun f hf => FnDeadCatches_j0 _ _ _ _ ht hl ha (fun q => ?_))
    rcases hf with ⟨hf, _⟩ | ⟨_, hf⟩
    · exact hf.1
    · rw [hf] at q; simp at q
  · exact FnDeadCatches_j0 _ _ _ _ ht hl ha (by simp)
end Go.Proofs.Ytlibkefnlfcakaa.Pure
