/- The plain proof: what the printed functions tell. Conditions: none beyond the statement's own. -/
import Derived.Test.YtdjdfflpdngohaaCFnInnerTracePureNames
import Derived.Test.YtdjdfflpdngohaaCFnInnerTracePTx7
import Derived.Test.YtdjdfflpdngohaaCFnInnerTracePTx3
import Derived.Test.YtdjdfflpdngohaaCFnInnerTracePTx2
namespace Go.Proofs.Ytdjdfflpdngohaa.Pure
open Go.RowKit Go.Proofs.Ytdjdfflpdngohaa.PT Go.Proofs.YtdjdfflpdngohaaW.PrintWords
set_option linter.unusedVariables false
set_option linter.unusedSimpArgs false
def OkF (c : S35) : Prop := c.f0.size ≤ 100 ∧ 0 ≤ c.f1 ∧ c.f1 ≤ 1000
def OkTr (t : List S35) : Prop := (t.length : Int) ≤ 12 ∧ ∀ c ∈ t, OkF c
theorem rdSF_mem {t : List S35} {i : Int} (h0 : 0 ≤ i) (h : i < (t.length : Int)) : rd_T35 t i ∈ t := by
  unfold rd_T35; rw [getD_nat _ _ _ (by omega)]; exact List.getElem_mem _
theorem OkTr.nil : OkTr [] := ⟨by simp, by simp⟩
theorem OkTr.snoc {t : List S35} {c : S35} (h : OkTr t) (hl : (t.length : Int) < 12) (hc : OkF c) : OkTr (t ++ [c]) :=
  ⟨by simp; omega, fun x hx => by
    rcases List.mem_append.1 hx with hx | hx
    · exact h.2 x hx
    · rw [List.mem_singleton] at hx; rw [hx]; exact hc⟩
theorem OkTr.set {t : List S35} {i : Nat} {c : S35} (h : OkTr t) (hc : OkF c) : OkTr (t.set i c) :=
  ⟨by simpa using h.1, fun x hx => by rcases List.mem_or_eq_of_mem_set hx with hx | rfl; exact h.2 x hx; exact hc⟩
theorem aFrame_ev (s : List Int) (c : Int) (hs : Bytes s) (hc : 0 ≤ c) (hc' : c ≤ 900000) :
    Evs (fun k => spec_aFrame.f k s c) (fun r => OkF ⟨r.1, r.2.1⟩ ∧ r.2.2 = c + 2) := by
  unfold spec_aFrame.f
  refine Evs.bind (of_ev s c _ hs hc (by omega) (by simp)) (fun a ⟨a1, a2⟩ => ?_)
  refine Evs.bind (one_ev s a.2 _ hs (by omega) (by omega) (by simp)) (fun b ⟨b1, b2⟩ => Evs.ret ?_)
  have d3 : a.1.size ≤ 100 := by
    simp only [List.mem_cons, List.not_mem_nil, or_false] at a2
    rcases a2 with d2 | d2 | d2 | d2 <;> rw [d2] <;> decide
  simp only [List.mem_cons, List.not_mem_nil, or_false] at b2
  exact ⟨⟨d3, by simp only; omega, by simp only; omega⟩, by simp only; omega⟩
theorem goodTrace_l1 (x4 : Int) (s : List Int) (c : Int) (f0 : ByteArray) (f1 : Int) (hf : OkF ⟨f0, f1⟩) (h4 : 0 ≤ x4) (h4' : x4 ≤ 100) (P : List S35 × Int → Prop)
    (h : ∀ acc, OkTr acc → Evs (fun k => spec_goodTrace.l0 k acc (x4 - 1) s c) P) : ∀ (m : Nat) (x6 : Int) (acc : List S35), x6.toNat = m → x6 ≤ 100 → -100 ≤ x6 → OkTr acc →
    Evs (fun k => spec_goodTrace.l1 k acc x4 x6 s c f0 f1) P
  | 0, x6, acc, hm, h6, h7, ha => by
    refine Evs.step (fun k => by rw [spec_goodTrace.l1]) (Evs.no (by omega) ?_)
    rw [w64 (x := x4 - 1) (by omega) (by omega)]
    exact h acc ha
  | m + 1, x6, acc, hm, h6, h7, ha => by
    refine Evs.step (fun k => by rw [spec_goodTrace.l1]) (Evs.yes (by omega) (Evs.ite (fun hl => Evs.yes (by omega) ?_) (fun hl => ?_)))
    · rw [w64 (x := x6 - 1) (by omega) (by omega)]
      exact goodTrace_l1 x4 s c f0 f1 hf h4 h4' P h m (x6 - 1) _ (by omega) (by omega) (by omega) (ha.snoc hl hf)
    · rw [w64 (x := x4 - 1) (by omega) (by omega)]
      exact h acc ha
theorem goodTrace_l0 (s : List Int) (hs : Bytes s) : ∀ (n : Nat) (x4 : Int) (acc : List S35) (c : Int), x4.toNat = n → x4 ≤ 10 → 0 ≤ c → c + 3 * n ≤ 1000 → OkTr acc →
    Evs (fun k => spec_goodTrace.l0 k acc x4 s c) (fun r => OkTr r.1 ∧ 0 ≤ r.2 ∧ r.2 ≤ c + 3 * n)
  | 0, x4, acc, c, hn, h4, hc, hc', ha => Evs.step (fun k => by rw [spec_goodTrace.l0]) (Evs.no (by omega) (Evs.ret ⟨ha, hc, by simp only; omega⟩))
  | n + 1, x4, acc, c, hn, h4, hc, hc', ha => by
    refine Evs.step (fun k => by rw [spec_goodTrace.l0]) (Evs.yes (by omega) (Evs.bind (aFrame_ev s c hs hc (by omega)) (fun f ⟨f1, f2⟩ => ?_)))
    refine Evs.bind (one_ev s f.2.2 _ hs (by omega) (by omega) (by simp)) (fun d ⟨d1, d2⟩ => ?_)
    simp only [List.mem_cons, List.not_mem_nil, or_false] at d2
    refine goodTrace_l1 x4 s d.2 f.1 f.2.1 f1 (by omega) (by omega) _ (fun acc ha => ?_) _ d.1 acc rfl (by omega) (by omega) ha
    exact (goodTrace_l0 s hs n (x4 - 1) acc d.2 (by omega) (by omega) (by omega) (by omega) ha).imp fun r ⟨r1, r2, r3⟩ => ⟨r1, r2, by omega⟩
theorem goodTrace_ev (s : List Int) (c : Int) (hs : Bytes s) (hc : 0 ≤ c) (hc' : c ≤ 900) :
    Evs (fun k => spec_goodTrace.f k s c) (fun r => OkTr r.1 ∧ 0 ≤ r.2 ∧ r.2 ≤ c + 20) := by
  unfold spec_goodTrace.f
  refine Evs.bind (one_ev s c _ hs hc (by omega) (by simp)) (fun q ⟨f1, f2⟩ => ?_)
  simp only [List.mem_cons, List.not_mem_nil, or_false] at f2
  exact (goodTrace_l0 s hs _ q.1 [] q.2 rfl (by omega) (by omega) (by omega) OkTr.nil).imp fun r ⟨r1, r2, r3⟩ => ⟨r1, r2, by omega⟩
theorem someTrace_ev (s : List Int) (c : Int) (hs : Bytes s) (hc : 0 ≤ c) (hc' : c ≤ 900) :
    Evs (fun k => spec_someTrace.f k s c) (fun r => OkTr r.1 ∧ 0 ≤ r.2 ∧ r.2 ≤ c + 30) := by
  unfold spec_someTrace.f
  refine Evs.bind (goodTrace_ev s c hs hc hc') (fun t ⟨t1, t3, t4⟩ => Evs.ite (fun hl => ?_) (fun _ => Evs.ret ⟨t1, by simp only; omega, by simp only; omega⟩))
  refine Evs.bind (pick_ev s t.2 _ hs t3 (by omega)) (fun a ⟨a1, _, a2⟩ => ?_)
  have a2 := a2 (by omega)
  refine Evs.bind (pick_ev s a.2 24 hs (by omega) (by omega)) (fun b ⟨b1, _, b2⟩ => ?_)
  have hm := t1.2 _ (rdSF_mem a2.1 a2.2)
  refine Evs.ite (fun h => ?_) (fun h => Evs.ite (fun h => ?_) (fun h => ?_))
  · refine Evs.bind (of_ev s b.2 _ hs (by omega) (by omega) (by simp)) (fun d ⟨d1, d2⟩ => ?_)
    have d3 : d.1.size ≤ 100 := by
      simp only [List.mem_cons, List.not_mem_nil, or_false] at d2
      rcases d2 with d2 | d2 | d2 <;> rw [d2] <;> decide
    exact Evs.yes a2.1 (Evs.yes a2.2 (Evs.ret ⟨t1.set ⟨d3, hm.2⟩, by simp only; omega, by simp only; omega⟩))
  · refine Evs.bind (one_ev s b.2 _ hs (by omega) (by omega) (by simp)) (fun d ⟨d1, d2⟩ => ?_)
    refine Evs.yes a2.1 (Evs.yes a2.2 (Evs.ret ⟨t1.set ⟨hm.1, ?_⟩, by simp only; omega, by simp only; omega⟩))
    simp only [List.mem_cons, List.not_mem_nil, or_false] at d2
    simp only
    omega
  · exact Evs.ret ⟨t1, by simp only; omega, by simp only; omega⟩
def FrameOk (c : S35) : Prop := NameOk c.f0 ∧ 1 ≤ c.f1 ∧ c.f1 ≤ 999
def ValidTr (t : List S35) : Prop := (t.length : Int) ≤ 12 ∧ ∀ c ∈ t, FrameOk c
def SmallTr (t : List S35) : Prop := (t.length : Int) ≤ 1099511627776 ∧ ∀ c ∈ t, (c.f0.size : Int) ≤ 1099511627776
theorem OkTr.small {t : List S35} (h : OkTr t) : SmallTr t := ⟨by have := h.1; omega, fun c hc => by have := (h.2 c hc).1; omega⟩
theorem SmallTr.take {t : List S35} (h : SmallTr t) (n : Nat) : SmallTr (t.take n) := ⟨by have := h.1; simp; omega, fun c hc => h.2 c (List.mem_of_mem_take hc)⟩
theorem SmallTr.drop {t : List S35} (h : SmallTr t) (n : Nat) : SmallTr (t.drop n) := ⟨by have := h.1; simp; omega, fun c hc => h.2 c (List.mem_of_mem_drop hc)⟩
theorem ValidTr.take {t : List S35} (h : ValidTr t) (n : Nat) : ValidTr (t.take n) := ⟨by have := h.1; simp; omega, fun c hc => h.2 c (List.mem_of_mem_take hc)⟩
theorem ValidTr.drop {t : List S35} (h : ValidTr t) (n : Nat) : ValidTr (t.drop n) := ⟨by have := h.1; simp; omega, fun c hc => h.2 c (List.mem_of_mem_drop hc)⟩
theorem validFrame_ev (c : S35) (hb : (c.f0.size : Int) ≤ 1099511627776) : Evs (fun k => spec_validFrame.f k c.f0 c.f1) (fun r => r = true ↔ FrameOk c) := by
  unfold spec_validFrame.f
  refine Evs.bind (validName_ev _ hb) (fun a ha => Evs.ite (fun h => ?_) (fun h => Evs.ret ⟨fun q => by simp at q, fun q => absurd (ha.2 q.1) h⟩))
  exact Evs.bind (inRange_ev _ _ _) (fun b hb => Evs.ret (hb.trans ⟨fun q => ⟨ha.1 h, q⟩, fun q => q.2⟩))
theorem ValidTrace_1_ev (c : S35) (hb : (c.f0.size : Int) ≤ 1099511627776) : Evs (fun k => impl_ValidTrace_1.f k c.f0 c.f1) (fun r => r = true ↔ ¬ FrameOk c) := by
  unfold impl_ValidTrace_1.f
  refine Evs.bind (nameOk_ev _ hb) (fun a ha => Evs.ite (fun h => ?_) (fun h => Evs.ret ⟨fun _ q => h (ha.2 q.1), fun _ => rfl⟩))
  refine Evs.bind (within_ev _ _ _) (fun b hb => Evs.ret ?_)
  have : FrameOk c ↔ b = true := ⟨fun q => hb.2 q.2, fun q => ⟨ha.1 h, hb.1 q⟩⟩
  rw [this]
  cases b <;> simp
theorem ValidTrace_ev (t : List S35) (ht : SmallTr t) : Evs (fun k => impl_ValidTrace.f k t) (fun r => r = true ↔ ValidTr t) := by
  unfold impl_ValidTrace.f
  refine Evs.ite (fun h => ?_) (fun h => Evs.ret ⟨fun q => by simp at q, fun q => absurd q.1 h⟩)
  refine Evs.bind (idxO_some (fun k x => impl_ValidTrace_1.f k x.f0 x.f1) (fun c => ¬ FrameOk c) z35 t (fun x hx => ValidTrace_1_ev x (ht.2 x hx))) (fun r hr => Evs.ret ?_)
  have e : ValidTr t ↔ ¬ 0 ≤ r := by
    rw [hr]
    refine ⟨fun q ⟨x, hx, hq⟩ => hq (q.2 x hx), fun q => ⟨h, fun x hx => ?_⟩⟩
    exact Classical.byContradiction fun hq => q ⟨x, hx, hq⟩
  rw [e]
  by_cases hz : 0 ≤ r <;> simp [hz]
theorem validTrace_l0 (t : List S35) (ht : SmallTr t) : ∀ (m : Nat) (i : Int), ((t.length : Int) - i).toNat = m → 0 ≤ i → i ≤ t.length →
    Evs (fun k => spec_validTrace.l0 k t i) (fun r => r = true ↔ ((t.length : Int) ≤ 12 ∧ ∀ j : Int, i ≤ j → j < t.length → FrameOk (rd_T35 t j)))
  | 0, i, hm, h0, h1 => by
    refine Evs.step (fun k => by rw [spec_validTrace.l0]) (Evs.no (by omega) (Evs.ret ?_))
    rw [decide_eq_true_iff]
    exact ⟨fun h => ⟨h, fun j _ _ => by omega⟩, fun h => h.1⟩
  | m + 1, i, hm, h0, h1 => by
    have hl := ht.1
    have hi : i < (t.length : Int) := by omega
    refine Evs.step (fun k => by rw [spec_validTrace.l0]) (Evs.yes hi (Evs.yes h0 (Evs.bind (validFrame_ev _ (ht.2 _ (rdSF_mem h0 hi))) (fun a ha => Evs.ite (fun h => ?_) (fun h => Evs.ret ⟨fun q => by simp at q, fun q => absurd (ha.2 (q.2 i (by omega) hi)) h⟩)))))
    rw [w64 (x := i + 1) (by omega) (by omega)]
    refine (validTrace_l0 t ht m (i + 1) (by omega) (by omega) (by omega)).imp fun r hr => ?_
    rw [hr]
    exact ⟨fun ⟨p, q⟩ => ⟨p, from_here (P := fun j => FrameOk (rd_T35 t j)) (ha.1 h) q⟩, fun ⟨p, q⟩ => ⟨p, fun j j0 j1 => q j (by omega) j1⟩⟩
theorem validTrace_ev (t : List S35) (ht : SmallTr t) : Evs (fun k => spec_validTrace.f k t) (fun r => r = true ↔ ValidTr t) :=
  (validTrace_l0 t ht _ 0 rfl (by omega) (by omega)).imp fun r hr => by
    rw [hr]
    refine ⟨fun ⟨p, q⟩ => ⟨p, fun c hc => ?_⟩, fun ⟨p, q⟩ => ⟨p, fun j j0 j1 => q _ (rdSF_mem j0 j1)⟩⟩
    obtain ⟨i, hi, rfl⟩ := List.getElem_of_mem hc
    have := q i (by omega) (by omega)
    unfold rd_T35 at this
    rwa [Int.toNat_natCast, getD_nat _ _ _ hi] at this
end Go.Proofs.Ytdjdfflpdngohaa.Pure
