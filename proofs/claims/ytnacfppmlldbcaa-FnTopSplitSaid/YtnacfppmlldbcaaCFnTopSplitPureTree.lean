/- The plain proof: what the printed functions tell. Conditions: none beyond the statement's own. -/
import Derived.Test.YtnacfppmlldbcaaCFnTopSplitPureNames
import Derived.Test.YtnacfppmlldbcaaCFnTopSplitPTx3
import Derived.Test.YtnacfppmlldbcaaCFnTopSplitPTx7
namespace Go.Proofs.Ytnacfppmlldbcaa.Pure
open Go.RowKit Go.Proofs.Ytnacfppmlldbcaa.PT Go.Proofs.YtnacfppmlldbcaaW.PrintWords
set_option linter.unusedVariables false
set_option linter.unusedSimpArgs false
theorem rdSC_mem {t : List S51} {i : Int} (h0 : 0 ≤ i) (h : i < (t.length : Int)) : rd_T51 t i ∈ t := by
  unfold rd_T51; rw [getD_nat _ _ _ (by omega)]; exact List.getElem_mem _
def First (t : List S51) (n : ByteArray) (r : Int) : Prop :=
  (r = -1 ∧ ∀ j : Int, 0 ≤ j → j < t.length → (rd_T51 t j).f0.toList ≠ n.toList) ∨ (0 ≤ r ∧ r < t.length ∧ (rd_T51 t r).f0.toList = n.toList ∧ ∀ j : Int, 0 ≤ j → j < r → (rd_T51 t j).f0.toList ≠ n.toList)
theorem First.uniq {t : List S51} {n : ByteArray} {r s : Int} (h : First t n r) (k : First t n s) : r = s := by
  rcases h with ⟨h1, h2⟩ | ⟨h1, h2, h3, h4⟩ <;> rcases k with ⟨k1, k2⟩ | ⟨k1, k2, k3, k4⟩
  · omega
  · exact absurd k3 (h2 s k1 k2)
  · exact absurd h3 (k2 r h1 h2)
  · by_cases hlt : r < s
    · exact absurd h3 (k4 r h1 hlt)
    · by_cases hlt' : s < r
      · exact absurd k3 (h4 s k1 hlt')
      · omega
theorem named_ev (t : List S51) (n : ByteArray) : Evs (fun _ => impl_Tree_named.f t n) (First t n) := by
  obtain ⟨r, h1, h2⟩ := idxO_spec (fun c : S51 => c.f0.toList == n.toList) z51 t 0
  refine Evs.const (a := r) h1 ?_
  rcases h2 with ⟨h2, h3⟩ | ⟨h2, h3, h4, h5⟩
  · exact .inl ⟨h2, fun j j0 j1 => by simpa [rd_T51] using h3 j j0 j1⟩
  · refine .inr ⟨h2, by omega, ?_, fun j j0 j1 => by simpa [rd_T51] using h5 j j0 (by omega)⟩
    rw [Int.sub_zero] at h4
    simpa [rd_T51] using h4
theorem classNamed_l0 (t : List S51) (n : ByteArray) (ht : (t.length : Int) ≤ 9223372036854775807) : ∀ (m : Nat) (i : Int), ((t.length : Int) - i).toNat = m → 0 ≤ i → i ≤ t.length →
    (∀ j : Int, 0 ≤ j → j < i → (rd_T51 t j).f0.toList ≠ n.toList) → Evs (fun k => spec_classNamed.l0 k t n i) (First t n)
  | 0, i, hm, h0, h1, hj => by
    exact Evs.step (fun k => by rw [spec_classNamed.l0]) (Evs.no (by omega) (Evs.ret (.inl ⟨rfl, fun j j0 j1 => hj j j0 (by omega)⟩)))
  | m + 1, i, hm, h0, h1, hj => by
    refine Evs.step (fun k => by rw [spec_classNamed.l0]) (Evs.yes (by omega) (Evs.yes h0 (Evs.ite (fun h => Evs.ret (.inr ⟨h0, by omega, h, hj⟩)) (fun h => ?_))))
    rw [w64 (x := i + 1) (by omega) (by omega)]
    refine classNamed_l0 t n ht m (i + 1) (by omega) (by omega) (by omega) (fun j j0 j1 => ?_)
    by_cases e : j = i
    · subst e; exact h
    · exact hj j j0 (by omega)
theorem classNamed_ev (t : List S51) (n : ByteArray) (ht : (t.length : Int) ≤ 9223372036854775807) : Evs (fun k => spec_classNamed.f k t n) (First t n) :=
  classNamed_l0 t n ht _ 0 rfl (by omega) (by omega) (fun j _ _ => by omega)
def ClassOk (t : List S51) (i : Int) : Prop := NameOk (rd_T51 t i).f0 ∧ (∀ j : Int, 0 ≤ j → j < i → (rd_T51 t j).f0.toList ≠ (rd_T51 t i).f0.toList) ∧
  (i = 0 → (rd_T51 t i).f1 = -1) ∧ (0 < i → 0 ≤ (rd_T51 t i).f1 ∧ (rd_T51 t i).f1 ≤ i - 1)
def ValidT (t : List S51) : Prop := (1 ≤ (t.length : Int) ∧ (t.length : Int) ≤ 8) ∧ ∀ i : Int, 0 ≤ i → i < t.length → ClassOk t i
def SmallT (t : List S51) : Prop := (t.length : Int) ≤ 9223372036854775807 ∧ ∀ c ∈ t, (c.f0.size : Int) ≤ 9223372036854775807
theorem SmallT.take {t : List S51} (h : SmallT t) (n : Nat) : SmallT (t.take n) := ⟨by have := h.1; simp; omega, fun c hc => h.2 c (List.mem_of_mem_take hc)⟩
theorem ValidTree_l0 (t : List S51) (ht : SmallT t) : ∀ (m : Nat) (i : Int), ((t.length : Int) - i).toNat = m → 0 ≤ i → i ≤ t.length →
    Evs (fun k => impl_ValidTree.l0 k t t.length i t) (fun r => r = true ↔ ((1 ≤ (t.length : Int) ∧ (t.length : Int) ≤ 8) ∧ ∀ j : Int, i ≤ j → j < t.length → ClassOk t j))
  | 0, i, hm, h0, h1 => by
    refine Evs.step (fun k => by rw [impl_ValidTree.l0]) (Evs.no (by omega) (Evs.bind (within_ev _ _ _) (fun r hr => Evs.ret ?_)))
    rw [hr]
    exact ⟨fun h => ⟨h, fun j _ _ => by omega⟩, fun h => h.1⟩
  | m + 1, i, hm, h0, h1 => by
    have hi : i < (t.length : Int) := by omega
    have hl := ht.1
    have go : ClassOk t i → Evs (fun k => impl_ValidTree.l0 k t t.length (wrap64 (i + 1)) t) (fun r => r = true ↔ ((1 ≤ (t.length : Int) ∧ (t.length : Int) ≤ 8) ∧ ∀ j : Int, i ≤ j → j < t.length → ClassOk t j)) := fun hok => by
      rw [w64 (x := i + 1) (by omega) (by omega)]
      refine (ValidTree_l0 t ht m (i + 1) (by omega) (by omega) (by omega)).imp fun r hr => ?_
      rw [hr]
      exact ⟨fun ⟨p, q⟩ => ⟨p, from_here hok q⟩, fun ⟨p, q⟩ => ⟨p, fun j j0 j1 => q j (by omega) j1⟩⟩
    have no : ¬ ClassOk t i → ((false = true) ↔ ((1 ≤ (t.length : Int) ∧ (t.length : Int) ≤ 8) ∧ ∀ j : Int, i ≤ j → j < t.length → ClassOk t j)) := fun hno =>
      ⟨fun h => by simp at h, fun ⟨_, q⟩ => absurd (q i (by omega) hi) hno⟩
    refine Evs.step (fun k => by rw [impl_ValidTree.l0]) (Evs.yes hi (Evs.yes h0 (Evs.yes hi (Evs.bind (nameOk_ev _ (ht.2 _ (rdSC_mem h0 hi))) (fun a ha => Evs.ite (fun h => ?_) (fun h => Evs.ret (no fun q => h (ha.2 q.1))))))))
    have hname := ha.1 h
    refine Evs.bind (named_ev _ _) (fun b hb => Evs.ite (fun h' => ?_) (fun h' => Evs.ret (no fun q => h' ?_)))
    · subst h'
      have hfirst : ∀ j : Int, 0 ≤ j → j < b → (rd_T51 t j).f0.toList ≠ (rd_T51 t b).f0.toList := by
        rcases hb with ⟨hb, _⟩ | ⟨_, _, _, hb⟩
        · omega
        · exact hb
      refine Evs.ite (fun hz => Evs.ite (fun hy => Evs.no (by omega) (go ⟨hname, hfirst, fun _ => hy, fun _ => by omega⟩)) (fun hy => Evs.ret (no fun q => hy (q.2.2.1 hz)))) (fun hz => Evs.yes (by omega) ?_)
      rw [w64 (x := b - 1) (by omega) (by omega)]
      refine Evs.bind (within_ev _ _ _) (fun d hd => Evs.ite (fun hy => go ⟨hname, hfirst, fun _ => by omega, fun _ => hd.1 hy⟩) (fun hy => Evs.ret (no fun q => hy (hd.2 (q.2.2.2 (by omega))))))
    · exact hb.uniq (.inr ⟨h0, hi, rfl, q.2.1⟩)
theorem ValidTree_ev (t : List S51) (ht : SmallT t) : Evs (fun k => impl_ValidTree.f k t) (fun r => r = true ↔ ValidT t) :=
  ValidTree_l0 t ht _ 0 rfl (by omega) (by omega)
theorem rdSC_take {t : List S51} {i j : Int} (h0 : 0 ≤ j) (h : j < i) (hi : i ≤ t.length) : rd_T51 (t.take i.toNat) j = rd_T51 t j := by
  unfold rd_T51
  rw [getD_nat _ _ _ (by simp; omega), getD_nat _ _ _ (by omega)]
  simp
theorem validTree_l0 (t : List S51) (ht : SmallT t) : ∀ (m : Nat) (i : Int), ((t.length : Int) - i).toNat = m → 0 ≤ i → i ≤ t.length →
    Evs (fun k => spec_validTree.l0 k i t) (fun r => r = true ↔ ((1 ≤ (t.length : Int) ∧ (t.length : Int) ≤ 8) ∧ ∀ j : Int, i ≤ j → j < t.length → ClassOk t j))
  | 0, i, hm, h0, h1 => by
    refine Evs.step (fun k => by rw [spec_validTree.l0]) (Evs.no (by omega) (Evs.bind (inRange_ev _ _ _) (fun r hr => Evs.ret ?_)))
    rw [hr]
    exact ⟨fun h => ⟨h, fun j _ _ => by omega⟩, fun h => h.1⟩
  | m + 1, i, hm, h0, h1 => by
    have hi : i < (t.length : Int) := by omega
    have hl := ht.1
    have go : ∀ b : Bool, (b = false ↔ ClassOk t i) → Evs (fun k => spec_validTree.j1 k i b t) (fun r => r = true ↔ ((1 ≤ (t.length : Int) ∧ (t.length : Int) ≤ 8) ∧ ∀ j : Int, i ≤ j → j < t.length → ClassOk t j)) := fun b hb => by
      refine Evs.step (fun k => by rw [spec_validTree.j1]) (Evs.ite (fun h => Evs.ret ⟨fun h => by simp at h, fun ⟨_, q⟩ => ?_⟩) (fun h => ?_))
      · have := hb.2 (q i (by omega) hi)
        rw [this] at h
        simp at h
      · have hok := hb.1 (by simpa using h)
        rw [w64 (x := i + 1) (by omega) (by omega)]
        refine (validTree_l0 t ht m (i + 1) (by omega) (by omega) (by omega)).imp fun r hr => ?_
        rw [hr]
        exact ⟨fun ⟨p, q⟩ => ⟨p, from_here hok q⟩, fun ⟨p, q⟩ => ⟨p, fun j j0 j1 => q j (by omega) j1⟩⟩
    have no : ¬ ClassOk t i → (true = false ↔ ClassOk t i) := fun hno => ⟨fun h => by simp at h, fun h => absurd h hno⟩
    refine Evs.step (fun k => by rw [spec_validTree.l0]) (Evs.yes hi (Evs.yes h0 (Evs.bind (validName_ev _ (ht.2 _ (rdSC_mem h0 hi))) (fun a ha => Evs.ite (fun h => Evs.yes (by omega) ?_) (fun h => go true (no fun q => h (ha.2 q.1)))))))
    have hname := ha.1 h
    refine Evs.bind (classNamed_ev _ _ (ht.take _).1) (fun b hb => Evs.ite (fun h' => go true (no fun q => ?_)) (fun h' => ?_))
    · rcases hb with ⟨hb, _⟩ | ⟨hb, hb1, hb2, _⟩
      · omega
      · have hb3 : b < i := by simp at hb1; omega
        rw [rdSC_take hb hb3 h1] at hb2
        exact q.2.1 b hb hb3 hb2
    · have hfirst : ∀ j : Int, 0 ≤ j → j < i → (rd_T51 t j).f0.toList ≠ (rd_T51 t i).f0.toList := by
        rcases hb with ⟨_, hb⟩ | ⟨hb, _⟩
        · intro j j0 j1
          have := hb j j0 (by simp; omega)
          rwa [rdSC_take j0 j1 h1] at this
        · omega
      refine Evs.ite (fun hz => Evs.ite (fun hy => Evs.no (by omega) (go false ⟨fun _ => ⟨hname, hfirst, fun _ => hy, fun _ => by omega⟩, fun _ => rfl⟩)) (fun hy => go true (no fun q => hy (q.2.2.1 hz)))) (fun hz => Evs.yes (by omega) ?_)
      rw [w64 (x := i - 1) (by omega) (by omega)]
      refine Evs.bind (inRange_ev _ _ _) (fun d hd => go (!d) ⟨fun hy => ⟨hname, hfirst, fun _ => by omega, fun _ => hd.1 (by simpa using hy)⟩, fun q => by simpa using hd.2 (q.2.2.2 (by omega))⟩)
theorem validTree_ev (t : List S51) (ht : SmallT t) : Evs (fun k => spec_validTree.f k t) (fun r => r = true ↔ ValidT t) :=
  validTree_l0 t ht _ 0 rfl (by omega) (by omega)
theorem ValidT.take {t : List S51} (h : ValidT t) {n : Int} (h1 : 1 ≤ n) (h2 : n ≤ t.length) : ValidT (t.take n.toNat) := by
  have hl : ((t.take n.toNat).length : Int) = n := by simp; omega
  refine ⟨by have := h.1; omega, fun i i0 i1 => ?_⟩
  have hi : i < n := by omega
  have := h.2 i i0 (by omega)
  unfold ClassOk at this ⊢
  rw [rdSC_take i0 hi h2]
  exact ⟨this.1, fun j j0 j1 => by rw [rdSC_take j0 (by omega) h2]; exact this.2.1 j j0 j1, this.2.2⟩
end Go.Proofs.Ytnacfppmlldbcaa.Pure
