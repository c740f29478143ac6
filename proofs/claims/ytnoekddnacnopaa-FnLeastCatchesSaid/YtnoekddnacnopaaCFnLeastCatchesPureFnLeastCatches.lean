/- The plain proof: what the printed functions tell. Conditions: none beyond the statement's own. -/
import Derived.Test.YtnoekddnacnopaaCFnLeastCatchesPureCatches
import Derived.Test.YtnoekddnacnopaaCFnLeastCatchesPureFnBelowOf
import Derived.Test.YtnoekddnacnopaaCFnLeastCatchesPTx15
import Derived.Test.YtnoekddnacnopaaCFnLeastCatchesPTx18
namespace Go.Proofs.Ytnoekddnacnopaa.Pure
open Go.RowKit Go.Proofs.Ytnoekddnacnopaa.PT Go.Proofs.YtnoekddnacnopaaW.PrintWords Go.Proofs.YtnoekddnacnopaaW.PrintLast
set_option linter.unusedVariables false
set_option linter.unusedSimpArgs false
theorem draw_LeastCatches (l : List Int) (h : Bytes l) : Evs (fun k => spec_DrawLeastCatches.f k l) (fun r => OkT r.1 ∧ r.2.length ≤ 12) := by
  unfold spec_DrawLeastCatches.f
  obtain ⟨r, h1, h2, h3⟩ := newReader_ev l h
  refine Evs.bind (Evs.const (P := fun x => x = r) h1 rfl) (fun _ e => ?_)
  subst e
  exact Evs.bind (treeCatches_ev _ _ h2 (by omega) (by omega)) (fun t ⟨t1, t2, _⟩ => Evs.ret ⟨t1, t2⟩)
def Least (t : List S67) (l : List Int) (a : Int) : Prop := a ∈ l ∧ ∀ b ∈ l, b ≠ a → ¬ Bel t a b
noncomputable instance Least.dec (t : List S67) (l : List Int) (a : Int) : Decidable (Least t l a) := Classical.propDecidable _
def LeastR (t : List S67) (l r : List Int) : Prop := (CatchOk t l ∧ r = sel (Least t l) 0 t.length) ∨ (¬ CatchOk t l ∧ r = [])
theorem LeastR.uniq {t : List S67} {l r s : List Int} (h : LeastR t l r) (k : LeastR t l s) : r = s := by
  rcases h with ⟨h1, h2⟩ | ⟨h1, h2⟩ <;> rcases k with ⟨k1, k2⟩ | ⟨k1, k2⟩
  · rw [h2, k2]
  · exact absurd h1 k1
  · exact absurd k1 h1
  · rw [h2, k2]
theorem LeastR.len {t : List S67} {l r : List Int} (h : LeastR t l r) : (r.length : Int) ≤ 8 := by
  rcases h with ⟨h1, h2⟩ | ⟨h1, h2⟩
  · have := h1.1.1
    have := sel_length (Least t l) t.length 0
    rw [h2]; omega
  · rw [h2]; simp
theorem upto_next' {P : Int → Prop} {i : Int} (hj : ∀ j : Int, 0 ≤ j → j < i → P j) (h : P i) : ∀ j : Int, 0 ≤ j → j < i + 1 → P j := fun j j0 j1 => by
  by_cases e : j = i
  · subst e; exact h
  · exact hj j j0 (by omega)
theorem q_ev (t : List S67) (a b : Int) (hv : ValidT t) (ha : HasC t a) : Evs (fun k => impl_LeastCatches.q k t a b) (fun r => r = true ↔ (b ≠ a ∧ Bel t a b)) := by
  unfold impl_LeastCatches.q
  exact Evs.ite (fun h => Evs.ret ⟨fun q => by simp at q, fun q => absurd h q.1⟩) (fun h => (Tree_is_ev t a b hv ha).imp fun r hr => hr.trans ⟨fun q => ⟨h, q⟩, fun q => q.2⟩)
theorem p_ev (t : List S67) (l : List Int) (a : Int) (hv : ValidT t) (ha : HasC t a) (hl : (l.length : Int) ≤ 6) : Evs (fun k => impl_LeastCatches.p k t l a) (fun r => r = true ↔ Least t l a) := by
  unfold impl_LeastCatches.p
  refine Evs.bind (Contains_ev l a (by omega)) (fun c hc => Evs.ite (fun h => ?_) (fun h => Evs.ret ⟨fun q => by simp at q, fun q => absurd (hc.2 q.1) h⟩))
  refine Evs.bind (idxO_some (fun k b => impl_LeastCatches.q k t a b) (fun b => b ≠ a ∧ Bel t a b) 0 l (fun b _ => q_ev t a b hv ha)) (fun r hr => Evs.ret ?_)
  have e : Least t l a ↔ ¬ 0 ≤ r := by
    rw [hr]
    exact ⟨fun q ⟨b, hb, q1, q2⟩ => q.2 b hb q1 q2, fun q => ⟨hc.1 h, fun b hb q1 q2 => q ⟨b, hb, q1, q2⟩⟩⟩
  rw [e]
  by_cases hz : 0 ≤ r <;> simp [hz]
theorem LeastCatches_ev (t : List S67) (l : List Int) (ht : SmallT t) : Evs (fun k => impl_LeastCatches.f k t l) (LeastR t l) := by
  unfold impl_LeastCatches.f
  refine Evs.bind (catchesOk_ev t l ht) (fun v hv => Evs.ite (fun h => ?_) (fun h => Evs.ret (.inr ⟨fun q => h (hv.2 q), rfl⟩)))
  have hg := hv.1 h
  exact (filter_ev t (fun k a => impl_LeastCatches.p k t l a) (Least t l) ht.1 (fun x hx => p_ev t l x hg.1 hx hg.2.1)).imp fun r hr => .inl ⟨hg, hr⟩
theorem sLeast_l1 (t : List S67) (l acc : List Int) (i : Int) (hv : ValidT t) (hi : HasC t i) (hl : (l.length : Int) ≤ 6) (ha : acc.length ≤ 100) (P : List Int → Prop)
    (hT : Least t l i → Evs (fun k => spec_LeastCatches.l0 k l (acc ++ [i]) (i + 1) t) P) (hF : ¬ Least t l i → Evs (fun k => spec_LeastCatches.l0 k l acc (i + 1) t) P) (m : Nat) :
    ∀ (j : Int) (f : Bool), ((l.length : Int) - j).toNat = m → 0 ≤ j → j ≤ l.length → (f = true ↔ (i ∈ l ∧ ∀ j' : Int, 0 ≤ j' → j' < j → rd l j' ≠ i → ¬ Bel t i (rd l j'))) →
    Evs (fun k => spec_LeastCatches.l1 k l acc i f j t) P := by
  have hi8 := hv.1
  have hib := hi.2
  have hi0 := hi.1
  induction m with
  | zero =>
    intro j f hm h0 h1 hf
    have e : f = true ↔ Least t l i := by
      rw [hf]
      refine ⟨fun ⟨a, b⟩ => ⟨a, fun c hc => ?_⟩, fun ⟨a, b⟩ => ⟨a, fun j' a0 a1 => b _ (rd_mem a0 (by omega))⟩⟩
      obtain ⟨j', a0, a1, rfl⟩ := mem_rd.1 hc
      exact b j' a0 (by omega)
    refine Evs.step (fun k => by rw [spec_LeastCatches.l1]) (Evs.no (by omega) ?_)
    rw [w64 (x := i + 1) (by omega) (by omega)]
    exact Evs.ite (fun h => Evs.yes (by omega) (hT (e.1 h))) (fun h => hF (fun q => h (e.2 q)))
  | succ m ih =>
    intro j f hm h0 h1 hf
    refine Evs.step (fun k => by rw [spec_LeastCatches.l1]) (Evs.yes (by omega) ?_)
    rw [w64 (x := j + 1) (by omega) (by omega)]
    refine Evs.ite (fun h => Evs.yes h0 (Evs.ite (fun e => ?_) (fun e => ?_))) (fun h => ?_)
    · refine ih (j + 1) true (by omega) (by omega) (by omega) ⟨fun _ => ?_, fun _ => rfl⟩
      obtain ⟨a, b⟩ := hf.1 h
      exact ⟨a, upto_next' (P := fun j' => rd l j' ≠ i → ¬ Bel t i (rd l j')) b (fun q => absurd e q)⟩
    · refine Evs.bind (isA_ev t i (rd l j) hv hi) (fun c hc => ih (j + 1) (!c) (by omega) (by omega) (by omega) ?_)
      obtain ⟨a, b⟩ := hf.1 h
      refine ⟨fun q => ⟨a, upto_next' (P := fun j' => rd l j' ≠ i → ¬ Bel t i (rd l j')) b (fun _ z => ?_)⟩, fun q => ?_⟩
      · have := hc.2 z
        rw [this] at q
        simp at q
      · cases c with
        | false => rfl
        | true => exact absurd (hc.1 rfl) (q.2 j h0 (by omega) e)
    · refine ih (j + 1) false (by omega) (by omega) (by omega) ⟨fun q => by simp at q, fun q => ?_⟩
      exact absurd (hf.2 ⟨q.1, fun j' a0 a1 => q.2 j' a0 (by omega)⟩) h
theorem sLeast_l0 (t : List S67) (l : List Int) (hv : ValidT t) (hl : (l.length : Int) ≤ 6) (m : Nat) : ∀ (i : Int) (acc : List Int), ((t.length : Int) - i).toNat = m → 0 ≤ i → i ≤ t.length → acc.length + m ≤ 50 →
    Evs (fun k => spec_LeastCatches.l0 k l acc i t) (fun r => r = acc ++ sel (Least t l) i m) := by
  induction m with
  | zero =>
    intro i acc hm h0 h1 ha
    exact Evs.step (fun k => by rw [spec_LeastCatches.l0]) (Evs.no (by omega) (Evs.ret (by simp [sel])))
  | succ m ih =>
    intro i acc hm h0 h1 ha
    refine Evs.step (fun k => by rw [spec_LeastCatches.l0]) (Evs.yes (by omega) (Evs.bind (hasInt_ev l i (by omega)) (fun c hc => ?_)))
    refine sLeast_l1 t l acc i hv ⟨h0, by omega⟩ hl (by omega) _ (fun hy => ?_) (fun hn => ?_) _ 0 c rfl (by omega) (by omega) (hc.trans ⟨fun q => ⟨q, fun j' a0 a1 => by omega⟩, fun q => q.1⟩)
    · unfold sel
      rw [if_pos hy]
      exact (ih (i + 1) _ (by omega) (by omega) (by omega) (by simp; omega)).imp fun r hr => by rw [hr]; simp
    · unfold sel
      rw [if_neg hn]
      exact ih (i + 1) acc (by omega) (by omega) (by omega) (by omega)
theorem sLeastCatches_ev (t : List S67) (l : List Int) (ht : SmallT t) (hl : (l.length : Int) ≤ 1099511627776) : Evs (fun k => spec_LeastCatches.f k t l) (LeastR t l) := by
  unfold spec_LeastCatches.f
  refine Evs.bind (goodCatches_ev t l ht hl) (fun v hv => Evs.ite (fun h => ?_) (fun h => Evs.ret (.inr ⟨fun q => h (hv.2 q), rfl⟩)))
  have hg := hv.1 h
  have := hg.1.1
  exact (sLeast_l0 t l hg.1 hg.2.1 t.length 0 [] (by omega) (by omega) (by omega) (by simp; omega)).imp fun r hr => .inl ⟨hg, by rw [hr]; simp⟩
theorem sel_le (P Q : Int → Prop) [∀ x, Decidable (P x)] [∀ x, Decidable (Q x)] (h : ∀ x, P x → Q x) : ∀ (m : Nat) (i : Int), (sel P i m).length ≤ (sel Q i m).length
  | 0, i => by simp [sel]
  | m + 1, i => by
    have := sel_le P Q h m (i + 1)
    unfold sel
    by_cases hp : P i
    · rw [if_pos hp, if_pos (h i hp)]; simp; omega
    · rw [if_neg hp]
      split
      · simp; omega
      · exact this
theorem sel_lt (P Q : Int → Prop) [∀ x, Decidable (P x)] [∀ x, Decidable (Q x)] (h : ∀ x, P x → Q x) (c : Int) (hc : Q c) (hn : ¬ P c) : ∀ (m : Nat) (i : Int), i ≤ c → c < i + m → (sel P i m).length < (sel Q i m).length
  | 0, i, h0, h1 => by omega
  | m + 1, i, h0, h1 => by
    unfold sel
    by_cases e : c = i
    · subst e
      have := sel_le P Q h m (c + 1)
      rw [if_neg hn, if_pos hc]; simp; omega
    · have := sel_lt P Q h c hc hn m (i + 1) (by omega) (by omega)
      by_cases hp : P i
      · rw [if_pos hp, if_pos (h i hp)]; simp; omega
      · rw [if_neg hp]
        split
        · simp; omega
        · exact this
theorem nodup_le : ∀ (xs ys : List Int), xs.Pairwise (· < ·) → (∀ x ∈ xs, x ∈ ys) → xs.length ≤ ys.length
  | [], ys, _, _ => by simp
  | x :: xs, ys, h, hs => by
    have hx := hs x List.mem_cons_self
    obtain ⟨h1, h2⟩ := List.pairwise_cons.1 h
    have := nodup_le xs (ys.erase x) h2 (fun y hy => (List.mem_erase_of_ne (by have := h1 y hy; omega)).2 (hs y (List.mem_cons_of_mem _ hy)))
    rw [List.length_erase_of_mem hx] at this
    have := List.length_pos_of_mem hx
    simp; omega
theorem least_top (t : List S67) (l : List Int) (hv : ValidT t) (n : Nat) : ∀ (b : Int), (b + 1).toNat ≤ n → b ∈ l → HasC t b → ∃ c, Least t l c ∧ Bel t b c := by
  induction n with
  | zero => intro b hn hb hh; have := hh.1; omega
  | succ n ih =>
    intro b hn hb hh
    by_cases h : Least t l b
    · exact ⟨b, h, Bel.refl hv hh⟩
    · obtain ⟨d, hd, hne, hbel⟩ : ∃ d ∈ l, d ≠ b ∧ Bel t b d := by
        refine Classical.byContradiction fun q => h ⟨hb, fun d hd hne hbel => q ⟨d, hd, hne, hbel⟩⟩
      have := hbel.le hv
      obtain ⟨c, h1, h2⟩ := ih d (by omega) hd hbel.has
      exact ⟨c, h1, hbel.trans h2⟩
theorem FnLeastCatches_rest (t : List S67) (l r x6 : List Int) (ht : OkT t) (hg : CatchOk t l) (hr : r = sel (Least t l) 0 t.length) (h6 : x6 = sel (Caught t l) 0 t.length) :
    ∀ (m : Nat) (i : Int), ((r.length : Int) - i).toNat = m → 0 ≤ i → i ≤ r.length → Evs (fun k => laws_FnLeastCatches.l0 k l r x6 i t) (fun b => b = true) := by
  have sm := ht.small
  have hv := hg.1
  have hmem : ∀ x, x ∈ r ↔ Least t l x := fun x => by
    rw [hr, mem_sel]
    refine ⟨fun q => q.2.2, fun q => ?_⟩
    have := hg.2.2 x q.1
    exact ⟨this.1, by have := this.2; omega, q⟩
  have hsort : r.Pairwise (· < ·) := by rw [hr]; exact sel_sorted _ _ _
  have hlen : r.length ≤ l.length := nodup_le r l hsort (fun x hx => ((hmem x).1 hx).1)
  have hl6 := hg.2.1
  have hcr : CatchOk t r := ⟨hv, by omega, fun a ha => hg.2.2 a ((hmem a).1 ha).1⟩
  have same : ∀ a, Caught t r a ↔ Caught t l a := fun a => by
    refine ⟨fun ⟨b, hb, q⟩ => ⟨b, ((hmem b).1 hb).1, q⟩, fun ⟨b, hb, q⟩ => ?_⟩
    obtain ⟨c, h1, h2⟩ := least_top t l hv _ b (Nat.le_refl _) hb (hg.2.2 b hb)
    exact ⟨c, (hmem c).2 h1, q.trans h2⟩
  intro m
  induction m with
  | zero =>
    intro i hm h0 h1
    refine Evs.step (fun k => by rw [laws_FnLeastCatches.l0]) (Evs.no (by omega) (Evs.bind (ascends_ev r (by omega) hsort) (fun c hc => Evs.yes hc ?_)))
    refine Evs.bind (CaughtBy_ev t r sm) (fun d hd => ?_)
    have e : d = x6 := by
      rcases hd with ⟨_, hd⟩ | ⟨hn, _⟩
      · rw [hd, h6]
        have : Caught t r = Caught t l := funext fun a => propext (same a)
        congr
      · exact absurd hcr hn
    have hdl := hd.len
    refine Evs.bind (equalInts_ev d x6 (by omega)) (fun c hc => Evs.yes (hc.2 e) ?_)
    refine Evs.bind (P := fun z => z = []) ?_ (fun z hz => Evs.yes (by rw [hz]; rfl) (Evs.ret (by rw [decide_eq_true_iff]; omega)))
    unfold impl_DeadCatches.f
    refine Evs.bind (catchesOk_ev t r sm) (fun c hc => Evs.yes (hc.2 hcr) (Evs.yes (by omega) (Evs.yes (by omega) ?_)))
    have dead : ∀ (n : Nat) (j : Int), ((r.length : Int) - j).toNat = n → 0 ≤ j → j ≤ r.length → Evs (fun k => impl_DeadCatches.l0 k r [] r r.length j t) (fun z => z = []) := by
      intro n
      induction n with
      | zero => intro j hn j0 j1; exact Evs.step (fun k => by rw [impl_DeadCatches.l0]) (Evs.no (by omega) (Evs.ret rfl))
      | succ n ih =>
        intro j hn j0 j1
        have hj : j < (r.length : Int) := by omega
        have hL := (hmem _).1 (rd_mem (xs := r) j0 hj)
        refine Evs.step (fun k => by rw [impl_DeadCatches.l0]) (Evs.yes hj (Evs.yes j0 (Evs.yes hj (Evs.yes j1 (Evs.bind (Tree_first_ev t _ _ hv (hg.2.2 _ hL.1)) (fun f hf => Evs.no ?_ ?_))))))
        · rw [ge_iff_le, hf.caught]
          rintro ⟨b, hb, hbel⟩
          have hb' := List.mem_of_mem_take hb
          refine hL.2 b ((hmem b).1 hb').1 (fun e => ?_) hbel
          obtain ⟨q, q0, q1, qe⟩ := mem_rd.1 hb
          have hq : q < j := by simp at q1; omega
          have := pairwise_rd hsort (i := q) (j := j) q0 hq hj
          have e2 : rd (r.take j.toNat) q = rd r q := by
            unfold rd
            rw [getD_nat _ _ _ (by omega), getD_nat _ _ _ (by omega)]
            simp
          omega
        · rw [w64 (x := j + 1) (by omega) (by omega)]
          exact ih (j + 1) (by omega) (by omega) (by omega)
    exact dead _ 0 rfl (by omega) (by omega)
  | succ m ih =>
    intro i hm h0 h1
    have hi : i < (r.length : Int) := by omega
    refine Evs.step (fun k => by rw [laws_FnLeastCatches.l0]) (Evs.yes hi ?_)
    rw [w64 (x := i + 1) (by omega) (by omega)]
    refine Evs.bind (P := fun y => y = []) (Evs.ret rfl) (fun y hy => Evs.yes h0 (Evs.yes h1 ?_))
    subst hy
    refine Evs.bind (P := fun y => y = r.take i.toNat) (Evs.ret rfl) (fun y hy => ?_)
    subst hy
    refine Evs.yes (by simp; omega) (Evs.bind (P := fun y => y = r.take i.toNat) (Evs.ret (by simp)) (fun y hy => ?_))
    subst hy
    refine Evs.yes (by omega) (Evs.yes (by omega) (Evs.bind (P := fun y => y = r.drop (i + 1).toNat) (Evs.ret rfl) (fun y hy => ?_)))
    subst hy
    refine Evs.yes (by simp; omega) (Evs.bind (CaughtBy_ev t _ sm) (fun d hd => ?_))
    have sub : ∀ b ∈ r.take i.toNat ++ r.drop (i + 1).toNat, b ∈ r ∧ b ≠ rd r i := by
      intro b hb
      rcases List.mem_append.1 hb with hb | hb
      · obtain ⟨q, hq, rfl⟩ := List.getElem_of_mem hb
        have hq1 : (q : Int) < i := by simp at hq; omega
        have := pairwise_rd hsort (i := q) (j := i) (by omega) hq1 hi
        have e2 : (r.take i.toNat)[q] = rd r q := by
          unfold rd
          rw [Int.toNat_natCast, getD_nat _ _ _ (by omega)]
          simp
        rw [e2]
        exact ⟨rd_mem (by omega) (by omega), by omega⟩
      · obtain ⟨q, hq, rfl⟩ := List.getElem_of_mem hb
        have hq1 : i + 1 + q < (r.length : Int) := by simp at hq; omega
        have := pairwise_rd hsort (i := i) (j := i + 1 + q) h0 (by omega) hq1
        have e2 : (r.drop (i + 1).toNat)[q] = rd r (i + 1 + q) := by
          unfold rd
          rw [getD_nat _ _ _ (by omega)]
          simp only [List.getElem_drop]
          congr 1
          omega
        rw [e2]
        exact ⟨rd_mem (by omega) (by omega), by omega⟩
    have hlt : (d.length : Int) < x6.length := by
      rcases hd with ⟨_, hd⟩ | ⟨hn, _⟩
      · have hL := (hmem _).1 (rd_mem (xs := r) h0 hi)
        have hh := hg.2.2 _ hL.1
        rw [hd, h6]
        have := sel_lt (Caught t (r.take i.toNat ++ r.drop (i + 1).toNat)) (Caught t l) (fun x ⟨b, hb, q⟩ => ⟨b, ((hmem b).1 (sub b hb).1).1, q⟩) (rd r i) ⟨_, hL.1, Bel.refl hv hh⟩ (fun ⟨b, hb, q⟩ => hL.2 b ((hmem b).1 (sub b hb).1).1 (sub b hb).2 q) t.length 0 hh.1 (by have := hh.2; omega)
        omega
      · exact absurd ⟨hv, by simp; omega, fun a ha => hcr.2.2 a (sub a ha).1⟩ hn
    exact Evs.no (by omega) (ih (i + 1) (by omega) (by omega) (by omega))
theorem FnLeastCatches_j0 (t : List S67) (l r : List Int) (x : Bool) (ht : OkT t) (hl : l.length ≤ 12) (hr : LeastR t l r) (hx : x = false → CatchOk t l) :
    Evs (fun k => laws_FnLeastCatches.j0 k l r x t) (fun b => b = true) := by
  have sm := ht.small
  have hrl := hr.len
  refine Evs.step (fun k => by rw [laws_FnLeastCatches.j0]) (Evs.ite (fun h => ?_) (fun h => ?_))
  · exact Evs.bind (sLeastCatches_ev t l sm (by omega)) (fun s hs => Evs.bind (equalInts_ev r s (by omega)) (fun e he => Evs.ret (he.2 (hr.uniq hs))))
  · have hg := hx (by simpa using h)
    refine Evs.bind (CaughtBy_ev t l sm) (fun d hd => ?_)
    rcases hd with ⟨_, hd⟩ | ⟨hn, _⟩
    · rcases hr with ⟨_, hr⟩ | ⟨hn, _⟩
      · exact FnLeastCatches_rest t l r d ht hg hr hd _ 0 rfl (by omega) (by omega)
      · exact absurd hg hn
    · exact absurd hg hn
theorem FnLeastCatches : laws_FnLeastCatches.Pure := by
  intro l h0 h1 h2
  apply Evs.done
  unfold laws_FnLeastCatches.f
  refine Evs.ite (fun _ => Evs.ret rfl) (fun _ => ?_)
  refine Evs.bind (draw_LeastCatches l (bytes_of_wf h2)) (fun t ⟨ht, hl⟩ => Evs.bind (LeastCatches_ev _ _ ht.small) (fun a ha => Evs.bind (sLeastCatches_ev _ _ ht.small (by omega)) (fun b hb => ?_)))
  have hal := ha.len
  refine Evs.bind (equalInts_ev a b (by omega)) (fun c hc => Evs.ite (fun h => ?_) (fun h => ?_))
  · refine Evs.bind (FirstCatch_ev _ _ 0 ht.small) (fun f hf => FnLeastCatches_j0 _ _ _ _ ht hl ha (fun q => ?_))
    rcases hf with ⟨hf, _⟩ | ⟨_, hf⟩
    · exact hf.1
    · rw [hf] at q; simp at q
  · exact FnLeastCatches_j0 _ _ _ _ ht hl ha (by simp)
end Go.Proofs.Ytnoekddnacnopaa.Pure
