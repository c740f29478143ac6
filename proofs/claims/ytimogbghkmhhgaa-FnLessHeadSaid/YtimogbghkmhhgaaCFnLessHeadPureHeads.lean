/- The plain proof: what the printed functions tell. Conditions: none beyond the statement's own. -/
import Derived.Test.YtimogbghkmhhgaaCFnLessHeadPureTrace
import Derived.WideShapes
import Derived.Test.YtimogbghkmhhgaaCFnLessHeadPTx15
import Derived.Test.YtimogbghkmhhgaaCFnLessHeadPTx16
import Derived.Test.YtimogbghkmhhgaaCFnLessHeadPTx6
import Derived.Test.YtimogbghkmhhgaaCFnLessHeadPTx13
namespace Go.Proofs.Ytimogbghkmhhgaa.Pure
open Go.RowKit Go.Proofs.Ytimogbghkmhhgaa.PT Go.Proofs.YtimogbghkmhhgaaW.PrintWords
set_option linter.unusedVariables false
set_option linter.unusedSimpArgs false
theorem tl_inj {a b : ByteArray} (h : a.toList = b.toList) : a = b := by
  rw [ByteArray.toList_eq, ByteArray.toList_eq] at h
  exact Go.WideShapes.bytes_inj h
theorem same_iff (a b : S34) : ((a.f0.toList == b.f0.toList) && (a.f1 == b.f1)) = true ↔ a = b := by
  rw [Bool.and_eq_true, beq_iff_eq, beq_iff_eq]
  refine ⟨fun ⟨h, k⟩ => ?_, fun h => by subst h; exact ⟨rfl, rfl⟩⟩
  cases a
  cases b
  have := tl_inj h
  simp only at this k
  rw [this, k]
theorem diff_iff (a b : S34) : (!(a.f0.toList == b.f0.toList) || !(a.f1 == b.f1)) = true ↔ a ≠ b := by
  rw [← Bool.not_and, Bool.not_eq_true', ← Bool.not_eq_true, same_iff]
theorem ext_rdSF {x y : List S34} (hl : x.length = y.length) (h : ∀ j : Int, 0 ≤ j → j < x.length → rd_T34 x j = rd_T34 y j) : x = y := by
  refine List.ext_getElem hl fun i h1 h2 => ?_
  have := h i (by omega) (by omega)
  unfold rd_T34 at this
  rwa [Int.toNat_natCast, getD_nat _ _ _ h1, getD_nat _ _ _ h2] at this
theorem equalTrace_l0 (x y : List S34) (hl : x.length = y.length) (hx : (x.length : Int) ≤ 1099511627776) : ∀ (m : Nat) (i : Int), ((x.length : Int) - i).toNat = m → 0 ≤ i → i ≤ x.length →
    Evs (fun k => laws_equalTrace.l0 k x y i) (fun r => r = true ↔ ∀ j : Int, i ≤ j → j < x.length → rd_T34 x j = rd_T34 y j)
  | 0, i, hm, h0, h1 => by
    exact Evs.step (fun k => by rw [laws_equalTrace.l0]) (Evs.no (by omega) (Evs.ret ⟨fun _ j j0 j1 => by omega, fun _ => rfl⟩))
  | m + 1, i, hm, h0, h1 => by
    refine Evs.step (fun k => by rw [laws_equalTrace.l0]) (Evs.yes (by omega) (Evs.yes h0 (Evs.yes (by omega) (Evs.ite (fun h => Evs.ret ⟨fun q => by simp at q, fun q => absurd (q i (by omega) (by omega)) ((diff_iff _ _).1 h)⟩) (fun h => ?_)))))
    have h : rd_T34 x i = rd_T34 y i := Classical.byContradiction fun q => h ((diff_iff _ _).2 q)
    rw [w64 (x := i + 1) (by omega) (by omega)]
    refine (equalTrace_l0 x y hl hx m (i + 1) (by omega) (by omega) (by omega)).imp fun r hr => ?_
    rw [hr]
    exact ⟨fun q => from_here (P := fun j => rd_T34 x j = rd_T34 y j) h q, fun q j j0 j1 => q j (by omega) j1⟩
theorem equalTrace_ev (x y : List S34) (hx : (x.length : Int) ≤ 1099511627776) : Evs (fun k => laws_equalTrace.f k x y) (fun r => r = true ↔ x = y) := by
  unfold laws_equalTrace.f
  refine Evs.ite (fun h => ?_) (fun h => Evs.ret ⟨fun q => by simp at q, fun q => absurd (by rw [q]) h⟩)
  have hl : x.length = y.length := by omega
  refine (equalTrace_l0 x y hl hx _ 0 rfl (by omega) (by omega)).imp fun r hr => ?_
  rw [hr]
  exact ⟨fun q => ext_rdSF hl q, fun q j _ _ => by rw [q]⟩
theorem copyFrames_ev (t : List S34) (ht : (t.length : Int) ≤ 1099511627776) : Evs (fun _ => spec_copyFrames.f t) (fun r => r = t) := by
  unfold spec_copyFrames.f
  refine Evs.const (a := t) ?_ rfl
  simp only [Option.bind_some, List.length_nil, List.nil_append]
  rw [if_pos (by omega)]
def Head (t u : List S34) (r : Int) : Prop := (0 ≤ r ∧ r ≤ t.length ∧ r ≤ u.length) ∧ (∀ j : Int, 0 ≤ j → j < r → rd_T34 t j = rd_T34 u j) ∧ (r < t.length → r < u.length → rd_T34 t r ≠ rd_T34 u r)
theorem Head.uniq {t u : List S34} {r s : Int} (h : Head t u r) (k : Head t u s) : r = s := by
  obtain ⟨⟨h1, h2, h3⟩, h4, h5⟩ := h
  obtain ⟨⟨k1, k2, k3⟩, k4, k5⟩ := k
  by_cases hlt : r < s
  · exact absurd (k4 r h1 hlt) (h5 (by omega) (by omega))
  · by_cases hlt' : s < r
    · exact absurd (h4 s k1 hlt') (k5 (by omega) (by omega))
    · omega
theorem upto_next {P : Int → Prop} {i : Int} (hj : ∀ j : Int, 0 ≤ j → j < i → P j) (h : P i) : ∀ j : Int, 0 ≤ j → j < i + 1 → P j := fun j j0 j1 => by
  by_cases e : j = i
  · subst e; exact h
  · exact hj j j0 (by omega)
theorem ihead_l0 (t u : List S34) (ht : (t.length : Int) ≤ 1099511627776) : ∀ (m : Nat) (i : Int), ((t.length : Int) - i).toNat = m → 0 ≤ i → i ≤ t.length → i ≤ u.length →
    (∀ j : Int, 0 ≤ j → j < i → rd_T34 t j = rd_T34 u j) → Evs (fun k => impl_head.l0 k t u i) (Head t u)
  | m, i, hm, h0, h1, h2, hj => by
    have go : i < t.length → i < u.length → rd_T34 t i = rd_T34 u i → Evs (fun k => impl_head.l0 k t u (wrap64 (i + 1))) (Head t u) := fun a b h => by
      rw [w64 (x := i + 1) (by omega) (by omega)]
      cases m with
      | zero => omega
      | succ m => exact ihead_l0 t u ht m (i + 1) (by omega) (by omega) (by omega) (by omega) (upto_next (P := fun j => rd_T34 t j = rd_T34 u j) hj h)
    refine Evs.step (fun k => by rw [impl_head.l0]) (Evs.ite (fun hl => ?_) (fun hl => ?_))
    · refine Evs.ite (fun h => Evs.yes h0 (Evs.yes (by omega) (Evs.ite (fun q => go (by omega) h ((same_iff _ _).1 q)) (fun q => Evs.ret ⟨⟨h0, h1, h2⟩, hj, fun _ _ e => q ((same_iff _ _).2 e)⟩)))) (fun h => Evs.ret ⟨⟨h0, h1, h2⟩, hj, fun _ b => absurd b h⟩)
    · refine Evs.ite (fun h => Evs.yes h0 (Evs.yes (by omega) (Evs.ite (fun q => go h (by omega) ((same_iff _ _).1 q)) (fun q => Evs.ret ⟨⟨h0, h1, h2⟩, hj, fun _ _ e => q ((same_iff _ _).2 e)⟩)))) (fun h => Evs.ret ⟨⟨h0, h1, h2⟩, hj, fun a _ => absurd a h⟩)
theorem ihead_ev (t u : List S34) (ht : (t.length : Int) ≤ 1099511627776) : Evs (fun k => impl_head.f k t u) (Head t u) :=
  ihead_l0 t u ht _ 0 rfl (by omega) (by omega) (by omega) (fun j _ _ => by omega)
theorem shead_l0 (t u : List S34) (ht : (t.length : Int) ≤ 1099511627776) : ∀ (m : Nat) (i : Int), ((t.length : Int) - i).toNat = m → 0 ≤ i → i ≤ t.length → i ≤ u.length →
    (∀ j : Int, 0 ≤ j → j < i → rd_T34 t j = rd_T34 u j) → Evs (fun k => spec_commonHead.l0 k t u i) (Head t u)
  | m, i, hm, h0, h1, h2, hj => by
    have go : i < t.length → i < u.length → rd_T34 t i = rd_T34 u i → Evs (fun k => spec_commonHead.l0 k t u (wrap64 (i + 1))) (Head t u) := fun a b h => by
      rw [w64 (x := i + 1) (by omega) (by omega)]
      cases m with
      | zero => omega
      | succ m => exact shead_l0 t u ht m (i + 1) (by omega) (by omega) (by omega) (by omega) (upto_next (P := fun j => rd_T34 t j = rd_T34 u j) hj h)
    refine Evs.step (fun k => by rw [spec_commonHead.l0]) (Evs.ite (fun h => Evs.ite (fun h' => Evs.yes h0 (Evs.ite (fun q => go h h' ((same_iff _ _).1 q)) (fun q => Evs.ret ⟨⟨h0, h1, h2⟩, hj, fun _ _ e => q ((same_iff _ _).2 e)⟩))) (fun h' => Evs.ret ⟨⟨h0, h1, h2⟩, hj, fun _ b => absurd b h'⟩)) (fun h => Evs.ret ⟨⟨h0, h1, h2⟩, hj, fun a _ => absurd a h⟩))
theorem shead_ev (t u : List S34) (ht : (t.length : Int) ≤ 1099511627776) : Evs (fun k => spec_commonHead.f k t u) (Head t u) :=
  shead_l0 t u ht _ 0 rfl (by omega) (by omega) (by omega) (fun j _ _ => by omega)
theorem twoTraces_l0 (t : List S34) (s : List Int) (hs : Bytes s) : ∀ (m : Nat) (x6 : Int) (u : List S34) (c : Int), x6.toNat = m → -10 ≤ x6 → x6 ≤ 10 → 0 ≤ c → c + 2 * m ≤ 1000 → OkTr t → OkTr u →
    Evs (fun k => spec_twoTraces.l0 k t u x6 s c) (fun r => OkTr r.1 ∧ OkTr r.2.1 ∧ 0 ≤ r.2.2 ∧ r.2.2 ≤ c + 2 * m)
  | 0, x6, u, c, hm, h6, h7, hc, hc', ht, hu => Evs.step (fun k => by rw [spec_twoTraces.l0]) (Evs.no (by omega) (Evs.ret ⟨ht, hu, hc, by simp only; omega⟩))
  | m + 1, x6, u, c, hm, h6, h7, hc, hc', ht, hu => by
    refine Evs.step (fun k => by rw [spec_twoTraces.l0]) (Evs.yes (by omega) (Evs.ite (fun hl => ?_) (fun hl => Evs.ret ⟨ht, hu, hc, by simp only; omega⟩)))
    refine Evs.bind (aFrame_ev s c hs hc (by omega)) (fun f ⟨f1, f2⟩ => Evs.yes (by omega) ?_)
    rw [w64 (x := x6 - 1) (by omega) (by omega)]
    exact (twoTraces_l0 t s hs m (x6 - 1) _ f.2.2 (by omega) (by omega) (by omega) (by omega) (by omega) ht (hu.snoc hl f1)).imp fun r ⟨r1, r2, r3, r4⟩ => ⟨r1, r2, r3, by omega⟩
theorem twoTraces_ev (s : List Int) (c : Int) (hs : Bytes s) (hc : 0 ≤ c) (hc' : c ≤ 800) :
    Evs (fun k => spec_twoTraces.f k s c) (fun r => OkTr r.1 ∧ OkTr r.2.1 ∧ 0 ≤ r.2.2 ∧ r.2.2 ≤ c + 100) := by
  unfold spec_twoTraces.f
  refine Evs.bind (someTrace_ev s c hs hc (by omega)) (fun t ⟨t1, t2, t3⟩ => ?_)
  refine Evs.bind (pick_ev s t.2 3 hs t2 (by omega)) (fun a ⟨a1, _, a2⟩ => Evs.ite (fun h => ?_) (fun h => ?_))
  · exact Evs.bind (someTrace_ev s a.2 hs (by omega) (by omega)) (fun u ⟨u1, u2, u3⟩ => Evs.ret ⟨t1, u1, u2, by simp only; omega⟩)
  · have hl := t1.1
    rw [w64 (x := (t.1.length : Int) + 1) (by omega) (by omega)]
    refine Evs.bind (pick_ev s a.2 _ hs (by omega) (by omega)) (fun b ⟨b1, _, b2⟩ => ?_)
    have b2 := b2 (by omega)
    refine Evs.yes b2.1 (Evs.yes (by omega) (Evs.bind (copyFrames_ev _ (by simp; omega)) (fun u hu => ?_)))
    subst hu
    refine Evs.bind (pick_ev s b.2 3 hs (by omega) (by omega)) (fun d ⟨d1, _, d2⟩ => ?_)
    have d2 := d2 (by omega)
    refine (twoTraces_l0 t.1 s hs _ d.1 _ d.2 rfl (by omega) (by omega) (by omega) (by omega) t1 ⟨by simp; omega, fun x hx => t1.2 x (List.mem_of_mem_take hx)⟩).imp fun r ⟨r1, r2, r3, r4⟩ => ⟨r1, r2, r3, by omega⟩
end Go.Proofs.Ytimogbghkmhhgaa.Pure
