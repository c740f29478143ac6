/- The plain proof: what the printed functions tell. Conditions: none beyond the statement's own. -/
import Derived.Test.YtimogbghkmhhgaaCFnLessHeadPureHeads
import Derived.Test.YtimogbghkmhhgaaCFnLessHeadPTx19
import Derived.Test.YtimogbghkmhhgaaCFnLessHeadPTx20
namespace Go.Proofs.Ytimogbghkmhhgaa.Pure
open Go.RowKit Go.Proofs.Ytimogbghkmhhgaa.PT Go.Proofs.YtimogbghkmhhgaaW.PrintWords
set_option linter.unusedVariables false
set_option linter.unusedSimpArgs false
theorem draw_LessHead (l : List Int) (h : Bytes l) : Evs (fun k => spec_DrawLessHead.f k l) (fun r => OkTr r.1 ∧ OkTr r.2) := by
  unfold spec_DrawLessHead.f
  obtain ⟨r, h1, h2, h3⟩ := newReader_ev l h
  refine Evs.bind (Evs.const (P := fun x => x = r) h1 rfl) (fun _ e => ?_)
  subst e
  exact Evs.bind (twoTraces_ev _ _ h2 (by omega) (by omega)) (fun t ⟨t1, t2, _⟩ => Evs.ret ⟨t1, t2⟩)
def Less (t u : List S34) (r : List S34 × Int) : Prop := ((ValidTr t ∧ ValidTr u) ∧ Head t u r.2 ∧ r.1 = t.drop r.2.toNat) ∨ (¬ (ValidTr t ∧ ValidTr u) ∧ r = ([], -1))
theorem Less.uniq {t u : List S34} {r s : List S34 × Int} (h : Less t u r) (k : Less t u s) : r = s := by
  rcases h with ⟨h1, h2, h3⟩ | ⟨h1, h2⟩ <;> rcases k with ⟨k1, k2, k3⟩ | ⟨k1, k2⟩
  · have e := h2.uniq k2
    exact Prod.ext (by rw [h3, k3, e]) e
  · exact absurd h1 k1
  · exact absurd k1 h1
  · rw [h2, k2]
theorem LessHead_j0 (t u : List S34) (x : Bool) (ht : SmallTr t) (hx : x = false ↔ (ValidTr t ∧ ValidTr u)) : Evs (fun k => impl_LessHead.j0 k t u x) (Less t u) := by
  have hl := ht.1
  refine Evs.step (fun k => by rw [impl_LessHead.j0]) (Evs.ite (fun h => Evs.ret (.inr ⟨fun q => by have := hx.2 q; rw [this] at h; simp at h, rfl⟩)) (fun h => ?_))
  have hg := hx.1 (by simpa using h)
  refine Evs.bind (ihead_ev t u hl) (fun n hn => Evs.yes hn.1.1 (Evs.yes hn.1.2.1 ?_))
  refine Evs.bind (P := fun r => r = t.drop n.toNat) ?_ (fun r hr => Evs.bind (P := fun q => q = r) ?_ (fun q hq => Evs.ret (.inl ⟨hg, hn, by rw [hq, hr]⟩)))
  · unfold impl_Frame_69.f
    exact Evs.yes (by simp; omega) (Evs.ret rfl)
  · unfold impl_Frame_70.f
    exact Evs.ret rfl
theorem LessHead_ev (t u : List S34) (ht : SmallTr t) (hu : SmallTr u) : Evs (fun k => impl_LessHead.f k t u) (Less t u) := by
  unfold impl_LessHead.f
  refine Evs.bind (ValidTrace_ev t ht) (fun a ha => Evs.ite (fun h => ?_) (fun h => LessHead_j0 t u true ht ⟨fun q => by simp at q, fun q => absurd (ha.2 q.1) h⟩))
  refine Evs.bind (ValidTrace_ev u hu) (fun b hb => LessHead_j0 t u (!b) ht ?_)
  exact ⟨fun q => ⟨ha.1 h, hb.1 (by simpa using q)⟩, fun q => by simpa using hb.2 q.2⟩
theorem sLessHead_j0 (t u : List S34) (x : Bool) (ht : SmallTr t) (hx : x = false ↔ (ValidTr t ∧ ValidTr u)) : Evs (fun k => spec_LessHead.j0 k t u x) (Less t u) := by
  have hl := ht.1
  refine Evs.step (fun k => by rw [spec_LessHead.j0]) (Evs.ite (fun h => Evs.ret (.inr ⟨fun q => by have := hx.2 q; rw [this] at h; simp at h, rfl⟩)) (fun h => ?_))
  have hg := hx.1 (by simpa using h)
  refine Evs.bind (shead_ev t u hl) (fun n hn => Evs.yes hn.1.1 (Evs.yes hn.1.2.1 ?_))
  exact Evs.bind (copyFrames_ev _ (by simp; omega)) (fun r hr => Evs.ret (.inl ⟨hg, hn, hr⟩))
theorem sLessHead_ev (t u : List S34) (ht : SmallTr t) (hu : SmallTr u) : Evs (fun k => spec_LessHead.f k t u) (Less t u) := by
  unfold spec_LessHead.f
  refine Evs.bind (validTrace_ev t ht) (fun a ha => Evs.ite (fun h => ?_) (fun h => sLessHead_j0 t u true ht ⟨fun q => by simp at q, fun q => absurd (ha.2 q.1) h⟩))
  refine Evs.bind (validTrace_ev u hu) (fun b hb => sLessHead_j0 t u (!b) ht ?_)
  exact ⟨fun q => ⟨ha.1 h, hb.1 (by simpa using q)⟩, fun q => by simpa using hb.2 q.2⟩
theorem Less.len {t u : List S34} {r : List S34 × Int} (h : Less t u r) : (r.1.length : Int) ≤ 12 := by
  rcases h with ⟨hg, _, h⟩ | ⟨_, h⟩
  · have := hg.1.1
    rw [h]; simp; omega
  · rw [h]; simp
end Go.Proofs.Ytimogbghkmhhgaa.Pure
