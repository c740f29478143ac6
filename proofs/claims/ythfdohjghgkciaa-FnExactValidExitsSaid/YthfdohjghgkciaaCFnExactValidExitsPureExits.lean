/- The plain proof: what the printed functions tell. Conditions: none beyond the statement's own. -/
import Derived.Test.YthfdohjghgkciaaCFnExactValidExitsPureClass
import Derived.Test.YthfdohjghgkciaaCFnExactValidExitsPTx5
import Derived.Test.YthfdohjghgkciaaCFnExactValidExitsPTx8
import Derived.Test.YthfdohjghgkciaaCFnExactValidExitsPTx4
namespace Go.Proofs.Ythfdohjghgkciaa.Pure
open Go.RowKit Go.Proofs.Ythfdohjghgkciaa.PT Go.Proofs.YthfdohjghgkciaaW.PrintWords
set_option linter.unusedVariables false
set_option linter.unusedSimpArgs false
theorem rdSE_mem {t : List S43} {i : Int} (h0 : 0 ≤ i) (h : i < (t.length : Int)) : rd_T43 t i ∈ t := by
  unfold rd_T43; rw [getD_nat _ _ _ (by omega)]; exact List.getElem_mem _
def ExitOk (t : List S70) (x : S43) : Prop :=
  ((x.f0 = 0 ∨ x.f0 = 1) ∧ (0 ≤ x.f1 ∧ x.f1 ≤ 99) ∧ x.f2 = 0) ∨ (x.f0 = 2 ∧ HasC t x.f1 ∧ x.f2 = 0) ∨ (x.f0 = 3 ∧ HasC t x.f1 ∧ 0 ≤ x.f2 ∧ x.f2 ≤ 99)
theorem codeOk_ev (a : Int) : Evs (fun _ => impl_codeOk.f a) (fun r => r = true ↔ (0 ≤ a ∧ a ≤ 99)) := by
  unfold impl_codeOk.f
  exact Evs.bind (within_ev _ _ _) (fun r hr => Evs.ret hr)
theorem Exit_valid_j0 (t : List S70) (x : S43) (p : Bool) (ht : SmallT t) (hp : p = true ↔ (x.f0 = 0 ∨ x.f0 = 1)) : Evs (fun k => impl_Exit_valid.j0 k x.f0 p x.f0 x.f1 x.f2 t) (fun r => r = true ↔ ExitOk t x) := by
  unfold ExitOk
  refine Evs.step (fun k => by rw [impl_Exit_valid.j0]) (Evs.ite (fun h => ?_) (fun h => ?_))
  · have h1 := hp.1 h
    refine Evs.bind (codeOk_ev _) (fun a ha => Evs.ite (fun q => Evs.ret ?_) (fun q => Evs.ret ⟨fun z => by simp at z, fun z => absurd (ha.2 ?_) q⟩))
    · rw [beq_iff_eq]
      have := ha.1 q
      constructor
      · exact fun z => .inl ⟨h1, this, z⟩
      · rintro (z | z | z)
        · exact z.2.2
        · exact z.2.2
        · omega
    · rcases z with z | z | z
      · exact z.2.1
      · omega
      · omega
  · have h1 : ¬ (x.f0 = 0 ∨ x.f0 = 1) := fun q => h (hp.2 q)
    refine Evs.ite (fun h2 => ?_) (fun h2 => Evs.ite (fun h3 => ?_) (fun h3 => Evs.ret ⟨fun z => by simp at z, fun z => ?_⟩))
    · refine Evs.bind (Evs.const (P := fun r => r = true ↔ HasC t x.f1) (has_eq t x.f1 ht) decide_eq_true_iff) (fun a ha => Evs.ite (fun q => Evs.ret ?_) (fun q => Evs.ret ⟨fun z => by simp at z, fun z => absurd (ha.2 ?_) q⟩))
      · rw [beq_iff_eq]
        constructor
        · exact fun z => .inr (.inl ⟨h2, ha.1 q, z⟩)
        · rintro (z | z | z)
          · exact z.2.2
          · exact z.2.2
          · omega
      · rcases z with z | z | z
        · exact absurd z.1 h1
        · exact z.2.1
        · exact z.2.1
    · refine Evs.bind (Evs.const (P := fun r => r = true ↔ HasC t x.f1) (has_eq t x.f1 ht) decide_eq_true_iff) (fun a ha => Evs.ite (fun q => ?_) (fun q => Evs.ret ⟨fun z => by simp at z, fun z => absurd (ha.2 ?_) q⟩))
      · refine Evs.bind (codeOk_ev _) (fun b hb => Evs.ret (hb.trans ⟨fun z => .inr (.inr ⟨h3, ha.1 q, z⟩), ?_⟩))
        rintro (z | z | z)
        · exact absurd z.1 h1
        · omega
        · exact z.2.2
      · rcases z with z | z | z
        · exact absurd z.1 h1
        · exact z.2.1
        · exact z.2.1
    · rcases z with z | z | z
      · exact absurd z.1 h1
      · exact absurd z.1 h2
      · exact absurd z.1 h3
theorem Exit_valid_ev (t : List S70) (x : S43) (ht : SmallT t) : Evs (fun k => impl_Exit_valid.f k x.f0 x.f1 x.f2 t) (fun r => r = true ↔ ExitOk t x) := by
  unfold impl_Exit_valid.f
  refine Evs.ite (fun h => Exit_valid_j0 t x _ ht ?_) (fun h => Exit_valid_j0 t x _ ht ?_)
  · rw [beq_iff_eq]; exact ⟨fun q => .inl q, fun _ => h⟩
  · rw [beq_iff_eq]; exact ⟨fun q => .inr q, fun q => q.resolve_left h⟩
theorem validExit_j0 (t : List S70) (x : S43) (p : Bool) (ht : SmallT t) (hp : p = true ↔ (x.f0 = 0 ∨ x.f0 = 1)) : Evs (fun k => spec_validExit.j0 k x.f0 p t x.f0 x.f1 x.f2) (fun r => r = true ↔ ExitOk t x) := by
  unfold ExitOk
  refine Evs.step (fun k => by rw [spec_validExit.j0]) (Evs.ite (fun h => ?_) (fun h => ?_))
  · have h1 := hp.1 h
    refine Evs.bind (inRange_ev _ _ _) (fun a ha => Evs.ite (fun q => Evs.ret ?_) (fun q => Evs.ret ⟨fun z => by simp at z, fun z => absurd (ha.2 ?_) q⟩))
    · rw [beq_iff_eq]
      have := ha.1 q
      constructor
      · exact fun z => .inl ⟨h1, this, z⟩
      · rintro (z | z | z)
        · exact z.2.2
        · exact z.2.2
        · omega
    · rcases z with z | z | z
      · exact z.2.1
      · omega
      · omega
  · have h1 : ¬ (x.f0 = 0 ∨ x.f0 = 1) := fun q => h (hp.2 q)
    refine Evs.ite (fun h2 => ?_) (fun h2 => Evs.ite (fun h3 => ?_) (fun h3 => Evs.ret ⟨fun z => by simp at z, fun z => ?_⟩))
    · refine Evs.bind (hasClass_ev t x.f1 ht) (fun a ha => Evs.ite (fun q => Evs.ret ?_) (fun q => Evs.ret ⟨fun z => by simp at z, fun z => absurd (ha.2 ?_) q⟩))
      · rw [beq_iff_eq]
        constructor
        · exact fun z => .inr (.inl ⟨h2, ha.1 q, z⟩)
        · rintro (z | z | z)
          · exact z.2.2
          · exact z.2.2
          · omega
      · rcases z with z | z | z
        · exact absurd z.1 h1
        · exact z.2.1
        · exact z.2.1
    · refine Evs.bind (hasClass_ev t x.f1 ht) (fun a ha => Evs.ite (fun q => ?_) (fun q => Evs.ret ⟨fun z => by simp at z, fun z => absurd (ha.2 ?_) q⟩))
      · refine Evs.bind (inRange_ev _ _ _) (fun b hb => Evs.ret (hb.trans ⟨fun z => .inr (.inr ⟨h3, ha.1 q, z⟩), ?_⟩))
        rintro (z | z | z)
        · exact absurd z.1 h1
        · omega
        · exact z.2.2
      · rcases z with z | z | z
        · exact absurd z.1 h1
        · exact z.2.1
        · exact z.2.1
    · rcases z with z | z | z
      · exact absurd z.1 h1
      · exact absurd z.1 h2
      · exact absurd z.1 h3
theorem validExit_ev (t : List S70) (x : S43) (ht : SmallT t) : Evs (fun k => spec_validExit.f k t x.f0 x.f1 x.f2) (fun r => r = true ↔ ExitOk t x) := by
  unfold spec_validExit.f
  refine Evs.ite (fun h => validExit_j0 t x _ ht ?_) (fun h => validExit_j0 t x _ ht ?_)
  · rw [beq_iff_eq]; exact ⟨fun q => .inl q, fun _ => h⟩
  · rw [beq_iff_eq]; exact ⟨fun q => .inr q, fun q => q.resolve_left h⟩
def ExitsOk (t : List S70) (l : List S43) : Prop := ValidT t ∧ (l.length : Int) ≤ 8 ∧ ∀ x ∈ l, ExitOk t x
theorem ExitsOk.take {t : List S70} {l : List S43} (h : ExitsOk t l) (n : Nat) : ExitsOk t (l.take n) := ⟨h.1, by have := h.2.1; simp; omega, fun x hx => h.2.2 x (List.mem_of_mem_take hx)⟩
theorem ExitsOk.drop {t : List S70} {l : List S43} (h : ExitsOk t l) (n : Nat) : ExitsOk t (l.drop n) := ⟨h.1, by have := h.2.1; simp; omega, fun x hx => h.2.2 x (List.mem_of_mem_drop hx)⟩
theorem ValidExits_ev (t : List S70) (l : List S43) (ht : SmallT t) : Evs (fun k => impl_ValidExits.f k t l) (fun r => r = true ↔ ExitsOk t l) := by
  unfold impl_ValidExits.f
  refine Evs.bind (ValidTree_ev t ht) (fun a ha => Evs.ite (fun h => Evs.ite (fun h' => ?_) (fun h' => Evs.ret ⟨fun q => by simp at q, fun q => absurd q.2.1 h'⟩)) (fun h => Evs.ret ⟨fun q => by simp at q, fun q => absurd (ha.2 q.1) h⟩))
  refine Evs.bind (idxO_some (fun k x => impl_ValidExits.q k t x) (fun c => ¬ ExitOk t c) z43 l (fun x hx => ?_)) (fun r hr => Evs.ret ?_)
  · unfold impl_ValidExits.q
    refine Evs.bind (Exit_valid_ev t x ht) (fun b hb => Evs.ret ?_)
    rw [← hb]
    cases b <;> simp
  · have e : ExitsOk t l ↔ ¬ 0 ≤ r := by
      rw [hr]
      refine ⟨fun q ⟨x, hx, hq⟩ => hq (q.2.2 x hx), fun q => ⟨ha.1 h, h', fun x hx => ?_⟩⟩
      exact Classical.byContradiction fun hq => q ⟨x, hx, hq⟩
    rw [e]
    by_cases hz : 0 ≤ r <;> simp [hz]
theorem validExits_l0 (t : List S70) (l : List S43) (ht : SmallT t) (hl : (l.length : Int) ≤ 1099511627776) (m : Nat) : ∀ (i : Int), ((l.length : Int) - i).toNat = m → 0 ≤ i → i ≤ l.length →
    Evs (fun k => spec_validExits.l0 k l i t) (fun r => r = true ↔ (ValidT t ∧ (l.length : Int) ≤ 8 ∧ ∀ j : Int, i ≤ j → j < l.length → ExitOk t (rd_T43 l j))) := by
  induction m with
  | zero =>
    intro i hm h0 h1
    refine Evs.step (fun k => by rw [spec_validExits.l0]) (Evs.no (by omega) (Evs.bind (validTree_ev t ht) (fun v hv => Evs.ite (fun h => Evs.ret ?_) (fun h => Evs.ret ⟨fun q => by simp at q, fun q => absurd (hv.2 q.1) h⟩))))
    rw [decide_eq_true_iff]
    exact ⟨fun q => ⟨hv.1 h, q, fun j j0 j1 => by omega⟩, fun q => q.2.1⟩
  | succ m ih =>
    intro i hm h0 h1
    have hi : i < (l.length : Int) := by omega
    refine Evs.step (fun k => by rw [spec_validExits.l0]) (Evs.yes hi (Evs.yes h0 (Evs.bind (validExit_ev t _ ht) (fun v hv => Evs.ite (fun h => ?_) (fun h => Evs.ret ⟨fun q => by simp at q, fun q => absurd (hv.2 (q.2.2 i (by omega) hi)) h⟩)))))
    rw [w64 (x := i + 1) (by omega) (by omega)]
    exact (ih (i + 1) (by omega) (by omega) (by omega)).imp fun r hr => hr.trans ⟨fun ⟨a, b, c⟩ => ⟨a, b, from_here (P := fun j => ExitOk t (rd_T43 l j)) (hv.1 h) c⟩, fun ⟨a, b, c⟩ => ⟨a, b, fun j j0 j1 => c j (by omega) j1⟩⟩
theorem mem_rdSE {x : S43} {xs : List S43} (h : x ∈ xs) : ∃ j : Int, 0 ≤ j ∧ j < xs.length ∧ rd_T43 xs j = x := by
  obtain ⟨i, hi, rfl⟩ := List.getElem_of_mem h
  refine ⟨i, by omega, by omega, ?_⟩
  unfold rd_T43
  rw [Int.toNat_natCast, getD_nat _ _ _ hi]
theorem validExits_ev (t : List S70) (l : List S43) (ht : SmallT t) (hl : (l.length : Int) ≤ 1099511627776) : Evs (fun k => spec_validExits.f k t l) (fun r => r = true ↔ ExitsOk t l) :=
  (validExits_l0 t l ht hl _ 0 rfl (by omega) (by omega)).imp fun r hr => hr.trans ⟨fun ⟨a, b, c⟩ => ⟨a, b, fun x hx => by obtain ⟨j, j0, j1, rfl⟩ := mem_rdSE hx; exact c j j0 j1⟩, fun ⟨a, b, c⟩ => ⟨a, b, fun j j0 j1 => c _ (rdSE_mem j0 j1)⟩⟩
theorem sValidExits_ev (t : List S70) (l : List S43) (ht : SmallT t) (hl : (l.length : Int) ≤ 1099511627776) : Evs (fun k => spec_ValidExits.f k t l) (fun r => r = true ↔ ExitsOk t l) := by
  unfold spec_ValidExits.f
  exact Evs.bind (validExits_ev t l ht hl) (fun r hr => Evs.ret hr)
end Go.Proofs.Ythfdohjghgkciaa.Pure
