/- The plain proof: what the printed functions tell. Conditions: none beyond the statement's own. -/
import Derived.Test.YtnacfppmlldbcaaCFnTopSplitPureClass
import Derived.Test.YtnacfppmlldbcaaCFnTopSplitPTx4
import Derived.Test.YtnacfppmlldbcaaCFnTopSplitPTx5
import Derived.Test.YtnacfppmlldbcaaCFnTopSplitPTx8
import Derived.Test.YtnacfppmlldbcaaCFnTopSplitPTx6
namespace Go.Proofs.Ytnacfppmlldbcaa.Pure
open Go.RowKit Go.Proofs.Ytnacfppmlldbcaa.PT Go.Proofs.YtnacfppmlldbcaaW.PrintWords
set_option linter.unusedVariables false
set_option linter.unusedSimpArgs false
theorem codeOk_ev (a : Int) : Evs (fun _ => impl_codeOk.f a) (fun r => r = true ↔ (0 ≤ a ∧ a ≤ 99)) := by
  unfold impl_codeOk.f
  exact Evs.bind (within_ev _ _ _) (fun r hr => Evs.ret hr)
def PA (g : List S41) (i : Int) : Prop := (0 ≤ (rd_T41 g i).f3 ∧ (rd_T41 g i).f3 ≤ 99) ∧ (0 ≤ (rd_T41 g i).f0 ∧ (rd_T41 g i).f0 ≤ 5) ∧ ((rd_T41 g i).f0 = 0 ↔ i = 0)
def PB (g : List S41) (i : Int) : Prop := 0 < i → (rd_T41 g i).f0 ≤ (rd_T41 g (i - 1)).f0 ∨ ((rd_T41 g (i - 1)).f1 = true ∧ (rd_T41 g i).f0 = (rd_T41 g (i - 1)).f0 + 1)
def PC (t : List S51) (g : List S41) (i : Int) : Prop := ((rd_T41 g i).f1 = true → (rd_T41 g i).f2 = 0 ∧ i + 1 < g.length ∧ (rd_T41 g i).f0 < (rd_T41 g (i + 1)).f0) ∧ ((rd_T41 g i).f1 = false → HasC t (rd_T41 g i).f2)
def PartOk (t : List S51) (g : List S41) (i : Int) : Prop := PA g i ∧ PB g i ∧ PC t g i
def PartsOk (t : List S51) (g : List S41) : Prop := (1 ≤ (g.length : Int) ∧ (g.length : Int) ≤ 16) ∧ ∀ i : Int, 0 ≤ i → i < g.length → PartOk t g i
def GroupOk (t : List S51) (g : List S41) : Prop := ValidT t ∧ PartsOk t g
theorem upto_here {P : Int → Prop} {i : Int} (hj : ∀ j : Int, 0 ≤ j → j < i → P j) (h : P i) : ∀ j : Int, 0 ≤ j → j < i + 1 → P j := fun j j0 j1 => by
  by_cases e : j = i
  · subst e; exact h
  · exact hj j j0 (by omega)
theorem first_iff (a i : Int) (b : Bool) (h : b = ((a == 0) != (i == 0))) : b = false ↔ (a = 0 ↔ i = 0) := by
  subst h
  by_cases h1 : a = 0 <;> by_cases h2 : i = 0
  · simp [h1, h2]
  · simp [h1, h2]
  · simp [h1, h2]
  · have e1 : (a == 0) = false := beq_eq_false_iff_ne.mpr h1
    have e2 : (i == 0) = false := beq_eq_false_iff_ne.mpr h2
    rw [e1, e2]
    exact ⟨fun _ => ⟨fun z => absurd z h1, fun z => absurd z h2⟩, fun _ => rfl⟩
theorem partsOk_l0 (t : List S51) (g : List S41) (ht : SmallT t) (hg : (g.length : Int) ≤ 9223372036854775807) (m : Nat) : ∀ (i : Int), ((g.length : Int) - i).toNat = m → 0 ≤ i → i ≤ g.length → (∀ j : Int, 0 ≤ j → j < i → PartOk t g j) →
    Evs (fun k => impl_partsOk.l0 k g g g.length i t) (fun r => r = true ↔ ((1 ≤ (g.length : Int) ∧ (g.length : Int) ≤ 16) ∧ ∀ j : Int, i ≤ j → j < g.length → PartOk t g j)) := by
  induction m with
  | zero =>
    intro i hm h0 h1 hj
    refine Evs.step (fun k => by rw [impl_partsOk.l0]) (Evs.no (by omega) (Evs.bind (within_ev _ _ _) (fun r hr => Evs.ret ?_)))
    rw [hr]
    exact ⟨fun h => ⟨h, fun j _ _ => by omega⟩, fun h => h.1⟩
  | succ m ih =>
    intro i hm h0 h1 hj
    have hi : i < (g.length : Int) := by omega
    have no : ¬ PartOk t g i → ((false = true) ↔ ((1 ≤ (g.length : Int) ∧ (g.length : Int) ≤ 16) ∧ ∀ j : Int, i ≤ j → j < g.length → PartOk t g j)) := fun hno => ⟨fun h => by simp at h, fun ⟨_, q⟩ => absurd (q i (by omega) hi) hno⟩
    have go : PartOk t g i → Evs (fun k => impl_partsOk.l0 k g g g.length (wrap64 (i + 1)) t) (fun r => r = true ↔ ((1 ≤ (g.length : Int) ∧ (g.length : Int) ≤ 16) ∧ ∀ j : Int, i ≤ j → j < g.length → PartOk t g j)) := fun hok => by
      rw [w64 (x := i + 1) (by omega) (by omega)]
      refine (ih (i + 1) (by omega) (by omega) (by omega) (upto_here hj hok)).imp fun r hr => ?_
      rw [hr]
      exact ⟨fun ⟨p, q⟩ => ⟨p, from_here (P := fun j => PartOk t g j) hok q⟩, fun ⟨p, q⟩ => ⟨p, fun j j0 j1 => q j (by omega) j1⟩⟩
    have j2 : ∀ b : Bool, (b = false ↔ PB g i) → PA g i → Evs (fun k => impl_partsOk.j2 k g i g g.length i b t (rd_T41 g i).f0 (rd_T41 g i).f1 (rd_T41 g i).f2 (rd_T41 g i).f3) (fun r => r = true ↔ ((1 ≤ (g.length : Int) ∧ (g.length : Int) ≤ 16) ∧ ∀ j : Int, i ≤ j → j < g.length → PartOk t g j)) := fun b hb hA => by
      refine Evs.step (fun k => by rw [impl_partsOk.j2]) (Evs.ite (fun h => Evs.ret (no fun q => by have := hb.2 q.2.1; rw [this] at h; simp at h)) (fun h => ?_))
      have hB := hb.1 (by simpa using h)
      rw [w64 (x := i + 1) (by omega) (by omega)]
      have leaf : (rd_T41 g i).f1 = false → Evs (fun k => (impl_Tree_has.f t (rd_T41 g i).f2).bind fun b => if b = true then impl_partsOk.l0 k g g g.length (wrap64 (i + 1)) t else some false) (fun r => r = true ↔ ((1 ≤ (g.length : Int) ∧ (g.length : Int) ≤ 16) ∧ ∀ j : Int, i ≤ j → j < g.length → PartOk t g j)) := fun hf => by
        refine Evs.bind (Evs.const (P := fun r => r = true ↔ HasC t (rd_T41 g i).f2) (has_eq t _ ht) decide_eq_true_iff) (fun a ha => Evs.ite (fun q => go ⟨hA, hB, fun z => by rw [hf] at z; simp at z, fun _ => ha.1 q⟩) (fun q => Evs.ret (no fun z => q (ha.2 (z.2.2.2 hf)))))
      have leaf' := leaf
      rw [w64 (x := i + 1) (by omega) (by omega)] at leaf'
      refine Evs.ite (fun hn => Evs.yes (by omega) (Evs.ite (fun hf => Evs.ite (fun hz => Evs.ite (fun hd => ?_) (fun hd => Evs.ret (no fun z => hd (z.2.2.1 hf).2.2))) (fun hz => Evs.ret (no fun z => hz (z.2.2.1 hf).1))) (fun hf => ?_))) (fun hn => Evs.ite (fun hf => Evs.ite (fun hz => Evs.ret (no fun z => hn (z.2.2.1 hf).2.1)) (fun hz => Evs.ret (no fun z => hn (z.2.2.1 hf).2.1))) (fun hf => ?_))
      · have := go ⟨hA, hB, fun _ => ⟨hz, hn, hd⟩, fun z => by rw [hf] at z; simp at z⟩
        rwa [w64 (x := i + 1) (by omega) (by omega)] at this
      · exact leaf' (by simpa using hf)
      · exact leaf' (by simpa using hf)
    have j1 : ∀ b : Bool, (b = false ↔ PA g i) → Evs (fun k => impl_partsOk.j1 k g i g g.length i b t (rd_T41 g i).f0 (rd_T41 g i).f1 (rd_T41 g i).f2 (rd_T41 g i).f3) (fun r => r = true ↔ ((1 ≤ (g.length : Int) ∧ (g.length : Int) ≤ 16) ∧ ∀ j : Int, i ≤ j → j < g.length → PartOk t g j)) := fun b hb => by
      refine Evs.step (fun k => by rw [impl_partsOk.j1]) (Evs.ite (fun h => Evs.ret (no fun q => by have := hb.2 q.1; rw [this] at h; simp at h)) (fun h => ?_))
      have hA := hb.1 (by simpa using h)
      refine Evs.ite (fun hp => ?_) (fun hp => j2 false ⟨fun _ q => absurd q hp, fun _ => rfl⟩ hA)
      have hpr := (hj (i - 1) (by omega) (by omega)).1.2.1
      rw [w64 (x := i - 1) (by omega) (by omega), w64 (x := (rd_T41 g (i - 1)).f0 + 1) (by omega) (by omega)]
      refine Evs.yes (by omega) (Evs.yes (by omega) (Evs.ite (fun hd => Evs.ite (fun hf => j2 _ ?_ hA) (fun hf => j2 _ ?_ hA)) (fun hd => j2 false ⟨fun _ _ => .inl (by omega), fun _ => rfl⟩ hA)))
      · constructor
        · intro q _
          have : (rd_T41 g i).f0 = (rd_T41 g (i - 1)).f0 + 1 := by simpa using q
          exact .inr ⟨hf, this⟩
        · intro q
          rcases q (by omega) with q | ⟨_, q⟩
          · omega
          · simp [q]
      · constructor
        · intro q; simp at q
        · intro q
          rcases q (by omega) with q | ⟨q, _⟩
          · omega
          · exact absurd q hf
    refine Evs.step (fun k => by rw [impl_partsOk.l0]) (Evs.yes hi (Evs.yes h0 (Evs.yes hi (Evs.bind (codeOk_ev _) (fun a ha => Evs.ite (fun h => ?_) (fun h => j1 true ⟨fun q => by simp at q, fun q => absurd (ha.2 q.1) h⟩))))))
    refine Evs.bind (within_ev _ _ _) (fun b hb => Evs.ite (fun h' => j1 _ ?_) (fun h' => j1 true ⟨fun q => by simp at q, fun q => absurd (hb.2 q.2.1) h'⟩))
    rw [first_iff _ _ _ rfl]
    exact ⟨fun q => ⟨ha.1 h, hb.1 h', q⟩, fun q => q.2.2⟩
theorem partsOk_ev (t : List S51) (g : List S41) (ht : SmallT t) (hg : (g.length : Int) ≤ 9223372036854775807) : Evs (fun k => impl_partsOk.f k t g) (fun r => r = true ↔ PartsOk t g) :=
  partsOk_l0 t g ht hg _ 0 rfl (by omega) (by omega) (fun j _ _ => by omega)
theorem ValidGroup_ev (t : List S51) (g : List S41) (ht : SmallT t) (hg : (g.length : Int) ≤ 9223372036854775807) : Evs (fun k => impl_ValidGroup.f k t g) (fun r => r = true ↔ GroupOk t g) := by
  unfold impl_ValidGroup.f
  refine Evs.bind (ValidTree_ev t ht) (fun a ha => Evs.ite (fun h => ?_) (fun h => Evs.ret ⟨fun q => by simp at q, fun q => absurd (ha.2 q.1) h⟩))
  exact Evs.bind (partsOk_ev t g ht hg) (fun b hb => Evs.ret (hb.trans ⟨fun q => ⟨ha.1 h, q⟩, fun q => q.2⟩))
def EndR (g : List S41) (i r : Int) : Prop := (i + 1 ≤ r ∧ r ≤ g.length) ∧ (∀ j : Int, i + 1 ≤ j → j < r → (rd_T41 g i).f0 < (rd_T41 g j).f0) ∧ (r < g.length → (rd_T41 g r).f0 ≤ (rd_T41 g i).f0)
theorem endOf_l0 (g : List S41) (i : Int) (h0 : 0 ≤ i) (hi : i < (g.length : Int)) (hg : (g.length : Int) ≤ 9223372036854775807) (m : Nat) : ∀ (x : Int), ((g.length : Int) - x).toNat = m → i + 1 ≤ x → x ≤ g.length → (∀ j : Int, i + 1 ≤ j → j < x → (rd_T41 g i).f0 < (rd_T41 g j).f0) →
    Evs (fun k => spec_endOf.l0 k g i x) (EndR g i) := by
  induction m with
  | zero =>
    intro x hm hx h1 hj
    exact Evs.step (fun k => by rw [spec_endOf.l0]) (Evs.no (by omega) (Evs.ret ⟨⟨hx, h1⟩, hj, fun q => by omega⟩))
  | succ m ih =>
    intro x hm hx h1 hj
    refine Evs.step (fun k => by rw [spec_endOf.l0]) (Evs.yes (by omega) (Evs.yes (by omega) (Evs.yes h0 (Evs.yes hi (Evs.ite (fun h => ?_) (fun h => Evs.ret ⟨⟨hx, h1⟩, hj, fun q => by omega⟩))))))
    rw [w64 (x := x + 1) (by omega) (by omega)]
    refine ih (x + 1) (by omega) (by omega) (by omega) (fun j j0 j1 => ?_)
    by_cases e : j = x
    · subst e; omega
    · exact hj j j0 (by omega)
theorem endOf_ev (g : List S41) (i : Int) (h0 : 0 ≤ i) (hi : i < (g.length : Int)) (hg : (g.length : Int) ≤ 9223372036854775807) : Evs (fun k => spec_endOf.f k g i) (EndR g i) := by
  unfold spec_endOf.f
  rw [w64 (x := i + 1) (by omega) (by omega)]
  exact endOf_l0 g i h0 hi hg _ (i + 1) rfl (by omega) (by omega) (fun j _ _ => by omega)
theorem iend_l0 (g : List S41) (i : Int) (h0 : 0 ≤ i) (hi : i < (g.length : Int)) (hg : (g.length : Int) ≤ 9223372036854775807) (m : Nat) : ∀ (x : Int), ((g.length : Int) - x).toNat = m → i + 1 ≤ x → x ≤ g.length → (∀ j : Int, i + 1 ≤ j → j < x → (rd_T41 g i).f0 < (rd_T41 g j).f0) →
    Evs (fun k => impl_end.l0 k g i x) (EndR g i) := by
  induction m with
  | zero =>
    intro x hm hx h1 hj
    exact Evs.step (fun k => by rw [impl_end.l0]) (Evs.no (by omega) (Evs.ret ⟨⟨hx, h1⟩, hj, fun q => by omega⟩))
  | succ m ih =>
    intro x hm hx h1 hj
    refine Evs.step (fun k => by rw [impl_end.l0]) (Evs.yes (by omega) (Evs.yes (by omega) (Evs.yes h0 (Evs.yes hi (Evs.ite (fun h => ?_) (fun h => Evs.ret ⟨⟨hx, h1⟩, hj, fun q => by omega⟩))))))
    rw [w64 (x := x + 1) (by omega) (by omega)]
    refine ih (x + 1) (by omega) (by omega) (by omega) (fun j j0 j1 => ?_)
    by_cases e : j = x
    · subst e; omega
    · exact hj j j0 (by omega)
theorem iend_ev (g : List S41) (i : Int) (h0 : 0 ≤ i) (hi : i < (g.length : Int)) (hg : (g.length : Int) ≤ 9223372036854775807) : Evs (fun k => impl_end.f k g i) (EndR g i) := by
  unfold impl_end.f
  rw [w64 (x := i + 1) (by omega) (by omega)]
  exact iend_l0 g i h0 hi hg _ (i + 1) rfl (by omega) (by omega) (fun j _ _ => by omega)
theorem EndR.uniq {g : List S41} {i r s : Int} (h : EndR g i r) (k : EndR g i s) : r = s := by
  obtain ⟨⟨h1, h2⟩, h3, h4⟩ := h
  obtain ⟨⟨k1, k2⟩, k3, k4⟩ := k
  by_cases hlt : r < s
  · have := k3 r h1 hlt
    have := h4 (by omega)
    omega
  · by_cases hlt' : s < r
    · have := h3 s k1 hlt'
      have := k4 (by omega)
      omega
    · omega
theorem EndR.none {g : List S41} {i r : Int} (h : EndR g i r) : r = i + 1 ↔ ¬ (i + 1 < g.length ∧ (rd_T41 g i).f0 < (rd_T41 g (i + 1)).f0) := by
  obtain ⟨⟨h1, h2⟩, h3, h4⟩ := h
  constructor
  · rintro rfl ⟨q1, q2⟩
    have := h4 q1
    omega
  · intro q
    refine Classical.byContradiction fun hne => q ⟨by omega, h3 (i + 1) (by omega) (by omega)⟩
theorem validGroup_l0 (t : List S51) (g : List S41) (ht : SmallT t) (hg : (g.length : Int) ≤ 9223372036854775807) (m : Nat) : ∀ (i : Int), ((g.length : Int) - i).toNat = m → 0 ≤ i → i ≤ g.length → (∀ j : Int, 0 ≤ j → j < i → PartOk t g j) →
    Evs (fun k => spec_validGroup.l0 k g i t) (fun r => r = true ↔ (ValidT t ∧ (1 ≤ (g.length : Int) ∧ (g.length : Int) ≤ 16) ∧ ∀ j : Int, i ≤ j → j < g.length → PartOk t g j)) := by
  induction m with
  | zero =>
    intro i hm h0 h1 hj
    refine Evs.step (fun k => by rw [spec_validGroup.l0]) (Evs.no (by omega) (Evs.bind (validTree_ev t ht) (fun a ha => Evs.ite (fun h => ?_) (fun h => Evs.ret ⟨fun q => by simp at q, fun q => absurd (ha.2 q.1) h⟩))))
    refine Evs.bind (inRange_ev _ _ _) (fun r hr => Evs.ret ?_)
    rw [hr]
    exact ⟨fun q => ⟨ha.1 h, q, fun j _ _ => by omega⟩, fun q => q.2.1⟩
  | succ m ih =>
    intro i hm h0 h1 hj
    have hi : i < (g.length : Int) := by omega
    have no : ¬ PartOk t g i → ((false = true) ↔ (ValidT t ∧ (1 ≤ (g.length : Int) ∧ (g.length : Int) ≤ 16) ∧ ∀ j : Int, i ≤ j → j < g.length → PartOk t g j)) := fun hno => ⟨fun h => by simp at h, fun ⟨_, _, q⟩ => absurd (q i (by omega) hi) hno⟩
    have j2 : ∀ b : Bool, (b = false ↔ PartOk t g i) → Evs (fun k => spec_validGroup.j2 k g i b t) (fun r => r = true ↔ (ValidT t ∧ (1 ≤ (g.length : Int) ∧ (g.length : Int) ≤ 16) ∧ ∀ j : Int, i ≤ j → j < g.length → PartOk t g j)) := fun b hb => by
      refine Evs.step (fun k => by rw [spec_validGroup.j2]) (Evs.ite (fun h => Evs.ret (no fun q => by have := hb.2 q; rw [this] at h; simp at h)) (fun h => ?_))
      have hok := hb.1 (by simpa using h)
      rw [w64 (x := i + 1) (by omega) (by omega)]
      refine (ih (i + 1) (by omega) (by omega) (by omega) (upto_here hj hok)).imp fun r hr => ?_
      rw [hr]
      exact ⟨fun ⟨v, p, q⟩ => ⟨v, p, from_here (P := fun j => PartOk t g j) hok q⟩, fun ⟨v, p, q⟩ => ⟨v, p, fun j j0 j1 => q j (by omega) j1⟩⟩
    have last : PA g i → PB g i → ((rd_T41 g i).f1 = true → (rd_T41 g i).f2 = 0) → ((rd_T41 g i).f1 = false → HasC t (rd_T41 g i).f2) →
        Evs (fun k => if (rd_T41 g i).f1 = true then (spec_endOf.f k g i).bind fun e => spec_validGroup.j2 k g i (e == i + 1) t else spec_validGroup.j2 k g i false t) (fun r => r = true ↔ (ValidT t ∧ (1 ≤ (g.length : Int) ∧ (g.length : Int) ≤ 16) ∧ ∀ j : Int, i ≤ j → j < g.length → PartOk t g j)) := fun hA hB hc hh => by
      refine Evs.ite (fun hf => Evs.bind (endOf_ev g i h0 hi hg) (fun e he => j2 _ ?_)) (fun hf => j2 false ⟨fun _ => ⟨hA, hB, fun q => absurd q hf, hh⟩, fun _ => rfl⟩)
      rw [beq_eq_false_iff_ne, Ne, he.none, Classical.not_not]
      exact ⟨fun q => ⟨hA, hB, fun _ => ⟨hc hf, q⟩, fun q => by rw [hf] at q; simp at q⟩, fun q => (q.2.2.1 hf).2⟩
    have j1 : ∀ b : Bool, (b = false ↔ (PA g i ∧ ((rd_T41 g i).f1 = true → (rd_T41 g i).f2 = 0) ∧ ((rd_T41 g i).f1 = false → HasC t (rd_T41 g i).f2))) → Evs (fun k => spec_validGroup.j1 k g i b t (rd_T41 g i).f0 (rd_T41 g i).f1 (rd_T41 g i).f2 (rd_T41 g i).f3) (fun r => r = true ↔ (ValidT t ∧ (1 ≤ (g.length : Int) ∧ (g.length : Int) ≤ 16) ∧ ∀ j : Int, i ≤ j → j < g.length → PartOk t g j)) := fun b hb => by
      refine Evs.step (fun k => by rw [spec_validGroup.j1]) (Evs.ite (fun h => Evs.ret (no fun q => by have := hb.2 ⟨q.1, fun z => (q.2.2.1 z).1, q.2.2.2⟩; rw [this] at h; simp at h)) (fun h => ?_))
      obtain ⟨hA, hc, hh⟩ := hb.1 (by simpa using h)
      rw [w64 (x := i + 1) (by omega) (by omega)]
      refine Evs.ite (fun hp => ?_) (fun hp => last hA (fun q => absurd q hp) hc hh)
      have hpr := (hj (i - 1) (by omega) (by omega)).1.2.1
      rw [w64 (x := i - 1) (by omega) (by omega), w64 (x := (rd_T41 g (i - 1)).f0 + 1) (by omega) (by omega)]
      refine Evs.yes (by omega) (Evs.yes (by omega) (Evs.ite (fun hd => j2 true ⟨fun q => by simp at q, fun q => ?_⟩) (fun hd => Evs.ite (fun he => Evs.ite (fun hf => last hA (fun _ => .inr ⟨hf, by omega⟩) hc hh) (fun hf => j2 true ⟨fun q => by simp at q, fun q => ?_⟩)) (fun he => last hA (fun _ => .inl (by omega)) hc hh))))
      · rcases q.2.1 (by omega) with z | ⟨_, z⟩ <;> omega
      · rcases q.2.1 (by omega) with z | ⟨z, _⟩
        · omega
        · exact absurd z hf
    have no1 : ¬ (PA g i ∧ ((rd_T41 g i).f1 = true → (rd_T41 g i).f2 = 0) ∧ ((rd_T41 g i).f1 = false → HasC t (rd_T41 g i).f2)) → (true = false ↔ (PA g i ∧ ((rd_T41 g i).f1 = true → (rd_T41 g i).f2 = 0) ∧ ((rd_T41 g i).f1 = false → HasC t (rd_T41 g i).f2))) := fun hno => ⟨fun q => by simp at q, fun q => absurd q hno⟩
    refine Evs.step (fun k => by rw [spec_validGroup.l0]) (Evs.yes hi (Evs.yes h0 (Evs.bind (inRange_ev _ _ _) (fun a ha => Evs.ite (fun h => ?_) (fun h => j1 true (no1 fun q => h (ha.2 q.1.1)))))))
    refine Evs.bind (inRange_ev _ _ _) (fun b hb => Evs.ite (fun h' => ?_) (fun h' => j1 true (no1 fun q => h' (hb.2 q.1.2.1))))
    have fi := first_iff (rd_T41 g i).f0 i _ rfl
    have leaf : ¬ (rd_T41 g i).f1 = true → Evs (fun k => (spec_hasClass.f t (rd_T41 g i).f2).bind fun c => if c = true then spec_validGroup.j1 k g i (((rd_T41 g i).f0 == 0) != (i == 0)) t (rd_T41 g i).f0 (rd_T41 g i).f1 (rd_T41 g i).f2 (rd_T41 g i).f3 else spec_validGroup.j1 k g i true t (rd_T41 g i).f0 (rd_T41 g i).f1 (rd_T41 g i).f2 (rd_T41 g i).f3) (fun r => r = true ↔ (ValidT t ∧ (1 ≤ (g.length : Int) ∧ (g.length : Int) ≤ 16) ∧ ∀ j : Int, i ≤ j → j < g.length → PartOk t g j)) := fun hf => by
      refine Evs.bind (hasClass_ev t _ ht) (fun c hc => Evs.ite (fun q => j1 _ ?_) (fun q => j1 true (no1 fun z => q (hc.2 (z.2.2 (by simpa using hf))))))
      rw [fi]
      exact ⟨fun z => ⟨⟨ha.1 h, hb.1 h', z⟩, fun y => absurd y hf, fun _ => hc.1 q⟩, fun z => z.1.2.2⟩
    refine Evs.ite (fun hf => Evs.ite (fun hz => j1 _ ?_) (fun hz => j1 true (no1 fun q => hz (q.2.1 hf)))) (fun hf => leaf hf)
    rw [fi]
    exact ⟨fun z => ⟨⟨ha.1 h, hb.1 h', z⟩, fun _ => hz, fun y => by rw [hf] at y; simp at y⟩, fun z => z.1.2.2⟩
theorem validGroup_ev (t : List S51) (g : List S41) (ht : SmallT t) (hg : (g.length : Int) ≤ 9223372036854775807) : Evs (fun k => spec_validGroup.f k t g) (fun r => r = true ↔ GroupOk t g) :=
  validGroup_l0 t g ht hg _ 0 rfl (by omega) (by omega) (fun j _ _ => by omega)
end Go.Proofs.Ytnacfppmlldbcaa.Pure
