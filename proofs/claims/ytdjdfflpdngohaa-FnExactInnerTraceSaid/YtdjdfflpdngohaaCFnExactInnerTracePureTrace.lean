/- The plain proof: what the printed functions tell. Conditions: none beyond the statement's own. -/
import Derived.Test.YtdjdfflpdngohaaCFnExactInnerTracePureNames
import Derived.Test.YtdjdfflpdngohaaCFnExactInnerTracePTx0
import Derived.Test.YtdjdfflpdngohaaCFnExactInnerTracePTx6
import Derived.Test.YtdjdfflpdngohaaCFnExactInnerTracePTx3
import Derived.Test.YtdjdfflpdngohaaCFnExactInnerTracePTx2
namespace Go.Proofs.Ytdjdfflpdngohaa.Pure
open Go.RowKit Go.Proofs.Ytdjdfflpdngohaa.PT Go.Proofs.YtdjdfflpdngohaaW.PrintWords
set_option linter.unusedVariables false
set_option linter.unusedSimpArgs false
def OkF (c : S35) : Prop := c.f0.size ≤ 100 ∧ 0 ≤ c.f1 ∧ c.f1 ≤ 1000
def OkTr (t : List S35) : Prop := (t.length : Int) ≤ 12 ∧ ∀ c ∈ t, OkF c
theorem rdSF_mem {t : List S35} {i : Int} (h0 : 0 ≤ i) (h : i < (t.length : Int)) : rd_T35 t i ∈ t := by
  unfold rd_T35; rw [getD_nat _ _ _ (by omega)]; exact List.getElem_mem _
theorem OkTr.nil : OkTr [] := ⟨by simp, by simp⟩
theorem OkTr.snoc {t : List S35} {c : S35} (h : OkTr t) (hl : (t.length : Int) < 12) (hc : OkF c) : OkTr (t ++ [c]) :=
  ⟨by simp; omega, fun x hx => by
    rcases List.mem_append.1 hx with hx | hx
    · exact h.2 x hx
    · rw [List.mem_singleton] at hx; rw [hx]; exact hc⟩
theorem OkTr.set {t : List S35} {i : Nat} {c : S35} (h : OkTr t) (hc : OkF c) : OkTr (t.set i c) :=
  ⟨by simpa using h.1, fun x hx => by rcases List.mem_or_eq_of_mem_set hx with hx | rfl; exact h.2 x hx; exact hc⟩
def FrameOk (c : S35) : Prop := NameOk c.f0 ∧ 1 ≤ c.f1 ∧ c.f1 ≤ 999
def ValidTr (t : List S35) : Prop := (t.length : Int) ≤ 12 ∧ ∀ c ∈ t, FrameOk c
def SmallTr (t : List S35) : Prop := (t.length : Int) ≤ 1099511627776 ∧ ∀ c ∈ t, (c.f0.size : Int) ≤ 1099511627776
theorem SmallTr.take {t : List S35} (h : SmallTr t) (n : Nat) : SmallTr (t.take n) := ⟨by have := h.1; simp; omega, fun c hc => h.2 c (List.mem_of_mem_take hc)⟩
theorem SmallTr.drop {t : List S35} (h : SmallTr t) (n : Nat) : SmallTr (t.drop n) := ⟨by have := h.1; simp; omega, fun c hc => h.2 c (List.mem_of_mem_drop hc)⟩
theorem ValidTr.take {t : List S35} (h : ValidTr t) (n : Nat) : ValidTr (t.take n) := ⟨by have := h.1; simp; omega, fun c hc => h.2 c (List.mem_of_mem_take hc)⟩
theorem ValidTr.drop {t : List S35} (h : ValidTr t) (n : Nat) : ValidTr (t.drop n) := ⟨by have := h.1; simp; omega, fun c hc => h.2 c (List.mem_of_mem_drop hc)⟩
theorem validFrame_ev (c : S35) (hb : (c.f0.size : Int) ≤ 1099511627776) : Evs (fun k => spec_validFrame.f k c.f0 c.f1) (fun r => r = true ↔ FrameOk c) := by
  unfold spec_validFrame.f
  refine Evs.bind (validName_ev _ hb) (fun a ha => Evs.ite (fun h => ?_) (fun h => Evs.ret ⟨fun q => by simp at q, fun q => absurd (ha.2 q.1) h⟩))
  exact Evs.bind (inRange_ev _ _ _) (fun b hb => Evs.ret (hb.trans ⟨fun q => ⟨ha.1 h, q⟩, fun q => q.2⟩))
theorem ValidTrace_1_ev (c : S35) (hb : (c.f0.size : Int) ≤ 1099511627776) : Evs (fun k => impl_ValidTrace_1.f k c.f0 c.f1) (fun r => r = true ↔ ¬ FrameOk c) := by
  unfold impl_ValidTrace_1.f
  refine Evs.bind (nameOk_ev _ hb) (fun a ha => Evs.ite (fun h => ?_) (fun h => Evs.ret ⟨fun _ q => h (ha.2 q.1), fun _ => rfl⟩))
  refine Evs.bind (within_ev _ _ _) (fun b hb => Evs.ret ?_)
  have : FrameOk c ↔ b = true := ⟨fun q => hb.2 q.2, fun q => ⟨ha.1 h, hb.1 q⟩⟩
  rw [this]
  cases b <;> simp
theorem ValidTrace_ev (t : List S35) (ht : SmallTr t) : Evs (fun k => impl_ValidTrace.f k t) (fun r => r = true ↔ ValidTr t) := by
  unfold impl_ValidTrace.f
  refine Evs.ite (fun h => ?_) (fun h => Evs.ret ⟨fun q => by simp at q, fun q => absurd q.1 h⟩)
  refine Evs.bind (idxO_some (fun k x => impl_ValidTrace_1.f k x.f0 x.f1) (fun c => ¬ FrameOk c) z35 t (fun x hx => ValidTrace_1_ev x (ht.2 x hx))) (fun r hr => Evs.ret ?_)
  have e : ValidTr t ↔ ¬ 0 ≤ r := by
    rw [hr]
    refine ⟨fun q ⟨x, hx, hq⟩ => hq (q.2 x hx), fun q => ⟨h, fun x hx => ?_⟩⟩
    exact Classical.byContradiction fun hq => q ⟨x, hx, hq⟩
  rw [e]
  by_cases hz : 0 ≤ r <;> simp [hz]
theorem validTrace_l0 (t : List S35) (ht : SmallTr t) : ∀ (m : Nat) (i : Int), ((t.length : Int) - i).toNat = m → 0 ≤ i → i ≤ t.length →
    Evs (fun k => spec_validTrace.l0 k t i) (fun r => r = true ↔ ((t.length : Int) ≤ 12 ∧ ∀ j : Int, i ≤ j → j < t.length → FrameOk (rd_T35 t j)))
  | 0, i, hm, h0, h1 => by
    refine Evs.step (fun k => by rw [spec_validTrace.l0]) (Evs.no (by omega) (Evs.ret ?_))
    rw [decide_eq_true_iff]
    exact ⟨fun h => ⟨h, fun j _ _ => by omega⟩, fun h => h.1⟩
  | m + 1, i, hm, h0, h1 => by
    have hl := ht.1
    have hi : i < (t.length : Int) := by omega
    refine Evs.step (fun k => by rw [spec_validTrace.l0]) (Evs.yes hi (Evs.yes h0 (Evs.bind (validFrame_ev _ (ht.2 _ (rdSF_mem h0 hi))) (fun a ha => Evs.ite (fun h => ?_) (fun h => Evs.ret ⟨fun q => by simp at q, fun q => absurd (ha.2 (q.2 i (by omega) hi)) h⟩)))))
    rw [w64 (x := i + 1) (by omega) (by omega)]
    refine (validTrace_l0 t ht m (i + 1) (by omega) (by omega) (by omega)).imp fun r hr => ?_
    rw [hr]
    exact ⟨fun ⟨p, q⟩ => ⟨p, from_here (P := fun j => FrameOk (rd_T35 t j)) (ha.1 h) q⟩, fun ⟨p, q⟩ => ⟨p, fun j j0 j1 => q j (by omega) j1⟩⟩
theorem validTrace_ev (t : List S35) (ht : SmallTr t) : Evs (fun k => spec_validTrace.f k t) (fun r => r = true ↔ ValidTr t) :=
  (validTrace_l0 t ht _ 0 rfl (by omega) (by omega)).imp fun r hr => by
    rw [hr]
    refine ⟨fun ⟨p, q⟩ => ⟨p, fun c hc => ?_⟩, fun ⟨p, q⟩ => ⟨p, fun j j0 j1 => q _ (rdSF_mem j0 j1)⟩⟩
    obtain ⟨i, hi, rfl⟩ := List.getElem_of_mem hc
    have := q i (by omega) (by omega)
    unfold rd_T35 at this
    rwa [Int.toNat_natCast, getD_nat _ _ _ hi] at this
end Go.Proofs.Ytdjdfflpdngohaa.Pure
