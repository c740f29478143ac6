/- The plain proof: what the printed functions tell. Conditions: none beyond the statement's own. -/
import Derived.Test.YtcbbflemaefeeaaCFnLeavesOfPureGroupDraw
import Derived.Test.YtcbbflemaefeeaaCFnLeavesOfPureKids
import Derived.Test.YtcbbflemaefeeaaCFnLeavesOfPTx17
import Derived.Test.YtcbbflemaefeeaaCFnLeavesOfPTx18
namespace Go.Proofs.Ytcbbflemaefeeaa.Pure
open Go.RowKit Go.Proofs.Ytcbbflemaefeeaa.PT Go.Proofs.YtcbbflemaefeeaaW.PrintWords Go.Proofs.YtcbbflemaefeeaaW.PrintLast
set_option linter.unusedVariables false
set_option linter.unusedSimpArgs false
theorem draw_LeavesOf (l : List Int) (h : Bytes l) : Evs (fun k => spec_DrawLeavesOf.f k l) (fun r => OkT r.1 ∧ r.2.length ≤ 40) := by
  unfold spec_DrawLeavesOf.f
  obtain ⟨r, h1, h2, h3⟩ := newReader_ev l h
  refine Evs.bind (Evs.const (P := fun x => x = r) h1 rfl) (fun _ e => ?_)
  subst e
  exact Evs.bind (someGroup_ev _ _ h2 (by omega) (by omega)) (fun t ⟨t1, t2⟩ => Evs.ret ⟨t1, t2⟩)
theorem lsame_iff (a b : S62) : ((a.f0 == b.f0) && (a.f1 == b.f1)) = true ↔ a = b := by
  rw [Bool.and_eq_true, beq_iff_eq, beq_iff_eq]
  refine ⟨fun ⟨h, k⟩ => ?_, fun h => by subst h; exact ⟨rfl, rfl⟩⟩
  cases a
  cases b
  simp only at h k
  rw [h, k]
theorem ldiff_iff (a b : S62) : (!(a.f0 == b.f0) || !(a.f1 == b.f1)) = true ↔ a ≠ b := by
  rw [← Bool.not_and, Bool.not_eq_true', ← Bool.not_eq_true, lsame_iff]
theorem ext_rdSL {x y : List S62} (hl : x.length = y.length) (h : ∀ j : Int, 0 ≤ j → j < x.length → rd_T62 x j = rd_T62 y j) : x = y := by
  refine List.ext_getElem hl fun i h1 h2 => ?_
  have := h i (by omega) (by omega)
  unfold rd_T62 at this
  rwa [Int.toNat_natCast, getD_nat _ _ _ h1, getD_nat _ _ _ h2] at this
theorem equalLeaves_l0 (x y : List S62) (hl : x.length = y.length) (hx : (x.length : Int) ≤ 1099511627776) : ∀ (m : Nat) (i : Int), ((x.length : Int) - i).toNat = m → 0 ≤ i → i ≤ x.length →
    Evs (fun k => laws_equalLeaves.l0 k x y i) (fun r => r = true ↔ ∀ j : Int, i ≤ j → j < x.length → rd_T62 x j = rd_T62 y j)
  | 0, i, hm, h0, h1 => by
    exact Evs.step (fun k => by rw [laws_equalLeaves.l0]) (Evs.no (by omega) (Evs.ret ⟨fun _ j j0 j1 => by omega, fun _ => rfl⟩))
  | m + 1, i, hm, h0, h1 => by
    refine Evs.step (fun k => by rw [laws_equalLeaves.l0]) (Evs.yes (by omega) (Evs.yes h0 (Evs.yes (by omega) (Evs.ite (fun h => Evs.ret ⟨fun q => by simp at q, fun q => absurd (q i (by omega) (by omega)) ((ldiff_iff _ _).1 h)⟩) (fun h => ?_)))))
    have h : rd_T62 x i = rd_T62 y i := Classical.byContradiction fun q => h ((ldiff_iff _ _).2 q)
    rw [w64 (x := i + 1) (by omega) (by omega)]
    refine (equalLeaves_l0 x y hl hx m (i + 1) (by omega) (by omega) (by omega)).imp fun r hr => ?_
    rw [hr]
    exact ⟨fun q => from_here (P := fun j => rd_T62 x j = rd_T62 y j) h q, fun q j j0 j1 => q j (by omega) j1⟩
theorem equalLeaves_ev (x y : List S62) (hx : (x.length : Int) ≤ 1099511627776) : Evs (fun k => laws_equalLeaves.f k x y) (fun r => r = true ↔ x = y) := by
  unfold laws_equalLeaves.f
  refine Evs.ite (fun h => ?_) (fun h => Evs.ret ⟨fun q => by simp at q, fun q => absurd (by rw [q]) h⟩)
  have hl : x.length = y.length := by omega
  refine (equalLeaves_l0 x y hl hx _ 0 rfl (by omega) (by omega)).imp fun r hr => ?_
  rw [hr]
  exact ⟨fun q => ext_rdSL hl q, fun q j _ _ => by rw [q]⟩
theorem seg_more (g : List S46) {s e : Int} (h1 : 1 ≤ s) (h2 : s ≤ e) (h3 : e ≤ g.length) : seg g 1 e = seg g 1 s ++ seg g s e := by
  unfold seg
  have a : (g.take e.toNat).take s.toNat = g.take s.toNat := by rw [List.take_take]; congr 1; omega
  have b : g.take e.toNat = g.take s.toNat ++ (g.take e.toNat).drop s.toNat := by rw [← a, List.take_append_drop]
  conv => lhs; rw [b]
  rw [List.drop_append_of_le_length (by simp; omega)]
theorem FnLeavesOf_l0 (t : List S70) (g : List S46) (ht : OkT t) (h : GroupOk t g) : ∀ (rest pre : List (List S46)) (s : Int), KidsFrom g s rest → 1 ≤ s → s ≤ g.length → (s < g.length → (rd_T46 g s).f0 = 1) → pre.length + rest.length ≤ 100 → (pre = [] ↔ s = 1) →
    Evs (fun k => laws_FnLeavesOf.l0 k (lvs g) (lvs (seg g 1 s)) (pre ++ rest) (pre.length : Int) t) (fun b => b = true)
  | [], pre, s, hk, h1, h2, h3, hl, hp => by
    have hgl := h.2.1
    have hll := lvs_length g
    simp only [KidsFrom] at hk
    subst hk
    have hsl := seg_length g (show (0 : Int) ≤ 1 by omega) h1 (by omega)
    have hls := lvs_length (seg g 1 g.length)
    have e1 : seg g 1 g.length = g.drop 1 := by
      unfold seg
      rw [List.take_of_length_le (by omega)]
      rfl
    have e0 : g = rd_T46 g 0 :: g.drop 1 := by
      have := drop_rdSP (t := g) (i := 0) (by omega) (by omega)
      simpa using this
    refine Evs.step (fun k => by rw [laws_FnLeavesOf.l0]) (Evs.no (by simp) ?_)
    have last : g.length ≠ 1 → Evs (fun k => (laws_equalLeaves.f k (lvs (seg g 1 g.length)) (lvs g)).bind fun b => some b) (fun b => b = true) := fun hne => by
      refine Evs.bind (equalLeaves_ev _ _ (by omega)) (fun c hc => Evs.ret (hc.2 ?_))
      rw [e1]
      conv => rhs; rw [e0]
      simp only [lvs]
      rw [if_pos (h.one (by omega)).1]
    refine Evs.ite (fun hz => ?_) (fun hz => last (fun q => ?_))
    · have hz' : pre = [] := List.eq_nil_of_length_eq_zero (by simp at hz; simpa using hz)
      have hg1 := hp.1 hz'
      refine Evs.yes ?_ (Evs.ret rfl)
      have hf : ¬ (rd_T46 g 0).f1 = true := fun q => by have := ((h.2.2 0 (by omega) (by omega)).2.2.1 q).2.1; omega
      have ed : g.drop 1 = [] := List.drop_eq_nil_of_le (by omega)
      rw [e0, ed]
      simp only [lvs]
      rw [if_neg hf]
      simp
    · have := hp.2 (by omega)
      rw [this] at hz
      simp at hz
  | x :: xs, pre, s, ⟨e, hi, he, hx, hk⟩, h1, h2, h3, hl, hp => by
    have h4 := he.1
    have hgl := h.2.1
    have hd := h3 hi.2
    have hkid := h.kid h1 hi.2 hd he
    rw [← hx] at hkid
    simp only [List.length_cons] at hl
    have hls := lvs_length (seg g 1 s)
    have hsl := seg_length g (show (0 : Int) ≤ 1 by omega) h1 h2
    refine Evs.step (fun k => by rw [laws_FnLeavesOf.l0]) (Evs.yes (by simp; omega) (Evs.yes (by omega) ?_))
    rw [rd_mid rfl, w64 (x := (pre.length : Int) + 1) (by omega) (by omega)]
    refine Evs.bind (LeavesOf_ev t x ht.small (by have := hkid.2.1; omega)) (fun d hd' => ?_)
    have hdl := hd'.len
    rcases hd' with ⟨_, hd'⟩ | ⟨q, _⟩
    case inr => exact absurd hkid q
    refine Evs.yes (by omega) ?_
    have e2 : lvs (seg g 1 s) ++ d = lvs (seg g 1 e) := by rw [seg_more g h1 (by omega) h4.2, lvs_append, hd', hx, lvs_deep]
    rw [e2]
    have := FnLeavesOf_l0 t g ht h xs (pre ++ [x]) e hk (by omega) h4.2 (fun q => h.next h1 hi.2 hd he q) (by simp; omega) ⟨fun q => by simp at q, fun q => by omega⟩
    rw [List.append_assoc, List.singleton_append] at this
    simpa using this
theorem FnLeavesOf_j0 (t : List S70) (g : List S46) (r : List S62) (x : Bool) (ht : OkT t) (hg : g.length ≤ 40) (hr : LeavesR t g r) (hx : x = false → r.length ≠ 0) :
    Evs (fun k => laws_FnLeavesOf.j0 k g r x t) (fun b => b = true) := by
  have hrl := hr.len
  refine Evs.step (fun k => by rw [laws_FnLeavesOf.j0]) (Evs.ite (fun h => ?_) (fun h => ?_))
  · exact Evs.bind (sLeavesOf_ev t g ht.small (by omega)) (fun s hs => Evs.bind (equalLeaves_ev r s (by omega)) (fun c hc => Evs.ret (hc.2 (hr.uniq hs))))
  · have h0 := hx (by simpa using h)
    rcases hr with ⟨hv, hm⟩ | ⟨_, q⟩
    case inr => rw [q] at h0; simp at h0
    have hl := hv.2.1
    refine Evs.bind (KidsOf_ev t g ht.small hv) (fun ks hk => ?_)
    obtain ⟨k1, k2⟩ := KidsFrom.all hv (by omega) (fun q => (hv.one q).2) hk
    have := FnLeavesOf_l0 t g ht hv ks [] 1 hk (by omega) (by omega) (fun q => (hv.one q).2) (by simp; omega) ⟨fun _ => rfl, fun _ => rfl⟩
    have e : lvs (seg g 1 1) = [] := by
      have : seg g 1 1 = [] := List.eq_nil_of_length_eq_zero (by have := seg_length g (s := 1) (e := 1) (by omega) (by omega) (by omega); omega)
      rw [this]; rfl
    rw [e] at this
    rw [hm]
    simpa using this
theorem FnLeavesOf : laws_FnLeavesOf.Pure := by
  intro l h0 h1 h2
  apply Evs.done
  unfold laws_FnLeavesOf.f
  refine Evs.ite (fun _ => Evs.ret rfl) (fun _ => ?_)
  refine Evs.bind (draw_LeavesOf l (bytes_of_wf h2)) (fun d ⟨d1, d2⟩ => Evs.bind (LeavesOf_ev _ _ d1.small (by omega)) (fun a ha => Evs.bind (sLeavesOf_ev _ _ d1.small (by omega)) (fun b hb => ?_)))
  have hal := ha.len
  refine Evs.bind (equalLeaves_ev _ _ (by omega)) (fun c hc => Evs.ite (fun h => FnLeavesOf_j0 _ _ _ _ d1 d2 ha (fun q => ?_)) (fun h => FnLeavesOf_j0 _ _ _ _ d1 d2 ha (by simp)))
  have : ¬ (a.length : Int) = 0 := by simpa using q
  omega
end Go.Proofs.Ytcbbflemaefeeaa.Pure
