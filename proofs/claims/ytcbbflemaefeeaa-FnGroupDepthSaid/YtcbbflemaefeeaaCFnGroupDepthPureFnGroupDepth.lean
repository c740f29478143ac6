/- The plain proof: what the printed functions tell. Conditions: none beyond the statement's own. -/
import Derived.Test.YtcbbflemaefeeaaCFnGroupDepthPureGroupDraw
import Derived.Test.YtcbbflemaefeeaaCFnGroupDepthPureKids
import Derived.Test.YtcbbflemaefeeaaCFnGroupDepthPTx15
import Derived.Test.YtcbbflemaefeeaaCFnGroupDepthPTx16
namespace Go.Proofs.Ytcbbflemaefeeaa.Pure
open Go.RowKit Go.Proofs.Ytcbbflemaefeeaa.PT Go.Proofs.YtcbbflemaefeeaaW.PrintWords Go.Proofs.YtcbbflemaefeeaaW.PrintLast
set_option linter.unusedVariables false
set_option linter.unusedSimpArgs false
theorem draw_GroupDepth (l : List Int) (h : Bytes l) : Evs (fun k => spec_DrawGroupDepth.f k l) (fun r => OkT r.1 ∧ r.2.length ≤ 40) := by
  unfold spec_DrawGroupDepth.f
  obtain ⟨r, h1, h2, h3⟩ := newReader_ev l h
  refine Evs.bind (Evs.const (P := fun x => x = r) h1 rfl) (fun _ e => ?_)
  subst e
  exact Evs.bind (someGroup_ev _ _ h2 (by omega) (by omega)) (fun t ⟨t1, t2⟩ => Evs.ret ⟨t1, t2⟩)
def Upto (g : List S46) (s n : Int) : Prop := -1 ≤ n ∧ (∀ j : Int, 1 ≤ j → j < s → (rd_T46 g j).f0 ≤ n + 1) ∧ (n = -1 ∨ ∃ j : Int, 1 ≤ j ∧ j < s ∧ (rd_T46 g j).f0 = n + 1)
theorem Upto.more {g : List S46} {s e n d : Int} (h : Upto g s n) (h1 : 1 ≤ s) (h2 : s < e) (h3 : e ≤ g.length) (hd : IsMax (deep (seg g s e)) d) (h5 : ∀ j : Int, s ≤ j → j < e → 1 ≤ (rd_T46 g j).f0) : Upto g e (if n < d then d else n) := by
  obtain ⟨a, b, c⟩ := h
  obtain ⟨d0, d1, d2⟩ := hd
  have hsl := seg_length g (show 0 ≤ s by omega) (show s ≤ e by omega) h3
  have hdl : ((deep (seg g s e)).length : Int) = e - s := by rw [deep_length]; exact hsl
  have rd : ∀ j : Int, 0 ≤ j → j < e - s → (rd_T46 (deep (seg g s e)) j).f0 = (rd_T46 g (s + j)).f0 - 1 := fun j j0 j1 => by
    rw [deep_rd _ j0 (by omega), seg_rd g (by omega) (by omega) h3 j0 j1]
  have all : ∀ j : Int, s ≤ j → j < e → (rd_T46 g j).f0 ≤ d + 1 := fun j j0 j1 => by
    have := d1 (j - s) (by omega) (by omega)
    rw [rd _ (by omega) (by omega), show s + (j - s) = j by omega] at this
    omega
  have one : ∃ j : Int, s ≤ j ∧ j < e ∧ (rd_T46 g j).f0 = d + 1 := by
    rcases d2 with q | ⟨j, j0, j1, q⟩
    · have x1 := all s (by omega) (by omega)
      have x2 := h5 s (by omega) (by omega)
      exact ⟨s, by omega, by omega, by omega⟩
    · rw [hdl] at j1
      rw [rd j j0 j1] at q
      exact ⟨s + j, by omega, by omega, by omega⟩
  by_cases hlt : n < d
  · rw [if_pos hlt]
    obtain ⟨j, j0, j1, q⟩ := one
    refine ⟨by omega, fun j j0 j1 => ?_, .inr ⟨j, by omega, j1, q⟩⟩
    by_cases hj : j < s
    · have := b j j0 hj; omega
    · exact all j (by omega) j1
  · rw [if_neg hlt]
    refine ⟨a, fun j j0 j1 => ?_, ?_⟩
    · by_cases hj : j < s
      · exact b j j0 hj
      · have := all j (by omega) j1; omega
    · rcases c with c | ⟨j, j0, j1, q⟩
      · obtain ⟨j, j0, j1, q⟩ := one
        have := h5 j j0 j1
        exact .inr ⟨j, by omega, j1, by omega⟩
      · exact .inr ⟨j, j0, by omega, q⟩
theorem FnGroupDepth_l0 (t : List S70) (g : List S46) (r : Int) (ht : OkT t) (h : GroupOk t g) (hr : IsMax g r) : ∀ (rest pre : List (List S46)) (s n : Int), KidsFrom g s rest → 1 ≤ s → s ≤ g.length → (s < g.length → (rd_T46 g s).f0 = 1) → Upto g s n → n ≤ 100 → pre.length + rest.length ≤ 100 →
    Evs (fun k => laws_FnGroupDepth.l0 k r n (pre ++ rest) (pre.length : Int) t) (fun b => b = true)
  | [], pre, s, n, hk, h1, h2, h3, hu, hn, hl => by
    have hgl := h.2.1
    simp only [KidsFrom] at hk
    subst hk
    refine Evs.step (fun k => by rw [laws_FnGroupDepth.l0]) (Evs.no (by simp) (Evs.ret ?_))
    obtain ⟨a, b, c⟩ := hu
    rw [w64 (x := n + 1) (by omega) (by omega), beq_iff_eq]
    refine hr.uniq ⟨by omega, fun j j0 j1 => ?_, ?_⟩
    · by_cases e : j = 0
      · subst e
        have := (h.2.2 0 (by omega) (by omega)).1.2.2.2 rfl
        omega
      · exact b j (by omega) j1
    · rcases c with c | ⟨j, j0, j1, q⟩
      · exact .inl (by omega)
      · exact .inr ⟨j, by omega, j1, q⟩
  | x :: xs, pre, s, n, ⟨e, hi, he, hx, hk⟩, h1, h2, h3, hu, hn, hl => by
    have h4 := he.1
    have hd := h3 hi.2
    have hkid := h.kid h1 hi.2 hd he
    rw [← hx] at hkid
    simp only [List.length_cons] at hl
    refine Evs.step (fun k => by rw [laws_FnGroupDepth.l0]) (Evs.yes (by simp; omega) (Evs.yes (by omega) ?_))
    rw [rd_mid rfl, w64 (x := (pre.length : Int) + 1) (by omega) (by omega)]
    refine Evs.bind (GroupDepth_ev t x ht.small (by have := hkid.2.1; omega)) (fun d hd' => ?_)
    rcases hd' with ⟨_, hd'⟩ | ⟨q, _⟩
    case inr => exact absurd hkid q
    have hd5 : d ≤ 5 := by
      rcases hd'.2.2 with q | ⟨j, j0, j1, q⟩
      · omega
      · have := hkid.bound j j0 j1; omega
    have hu' := hu.more h1 (by omega) h4.2 (by rw [← hx]; exact hd') (fun j j0 j1 => by
      by_cases q : j = s
      · subst q; omega
      · have := he.2.1 j (by omega) j1; omega)
    have nx := fun q => h.next h1 hi.2 hd he q
    have key : ∀ n' : Int, Upto g e n' → n' ≤ 100 → Evs (fun k => laws_FnGroupDepth.l0 k r n' (pre ++ x :: xs) ((pre.length : Int) + 1) t) (fun b => b = true) := fun n' q1 q2 => by
      have := FnGroupDepth_l0 t g r ht h hr xs (pre ++ [x]) e n' hk (by omega) h4.2 nx q1 q2 (by simp; omega)
      rw [List.append_assoc, List.singleton_append] at this
      simpa using this
    refine Evs.ite (fun hlt => key d ?_ (by omega)) (fun hlt => key n ?_ hn)
    · rwa [if_pos hlt] at hu'
    · rwa [if_neg hlt] at hu'
theorem FnGroupDepth_j0 (t : List S70) (g : List S46) (r : Int) (x : Bool) (ht : OkT t) (hg : g.length ≤ 40) (hr : DepthR t g r) (hx : x = false → 0 ≤ r) :
    Evs (fun k => laws_FnGroupDepth.j0 k g r x t) (fun b => b = true) := by
  refine Evs.step (fun k => by rw [laws_FnGroupDepth.j0]) (Evs.ite (fun h => ?_) (fun h => ?_))
  · exact Evs.bind (sGroupDepth_ev t g ht.small (by omega)) (fun s hs => Evs.ret (by rw [hr.uniq hs]; simp))
  · have h0 := hx (by simpa using h)
    rcases hr with ⟨hv, hm⟩ | ⟨_, q⟩
    case inr => omega
    have hl := hv.2.1
    refine Evs.bind (KidsOf_ev t g ht.small hv) (fun ks hk => ?_)
    obtain ⟨k1, k2⟩ := KidsFrom.all hv (by omega) (fun q => (hv.one q).2) hk
    have := FnGroupDepth_l0 t g r ht hv hm ks [] 1 (-1) hk (by omega) (by omega) (fun q => (hv.one q).2) ⟨by omega, fun j _ _ => by omega, .inl rfl⟩ (by omega) (by simp; omega)
    simpa using this
theorem FnGroupDepth : laws_FnGroupDepth.Pure := by
  intro l h0 h1 h2
  apply Evs.done
  unfold laws_FnGroupDepth.f
  refine Evs.ite (fun _ => Evs.ret rfl) (fun _ => ?_)
  refine Evs.bind (draw_GroupDepth l (bytes_of_wf h2)) (fun d ⟨d1, d2⟩ => Evs.bind (GroupDepth_ev _ _ d1.small (by omega)) (fun a ha => Evs.bind (sGroupDepth_ev _ _ d1.small (by omega)) (fun b hb => ?_)))
  refine Evs.ite (fun h => FnGroupDepth_j0 _ _ _ _ d1 d2 ha (fun q => ?_)) (fun h => FnGroupDepth_j0 _ _ _ _ d1 d2 ha (by simp))
  have : ¬ a < 0 := by simpa using q
  omega
end Go.Proofs.Ytcbbflemaefeeaa.Pure
