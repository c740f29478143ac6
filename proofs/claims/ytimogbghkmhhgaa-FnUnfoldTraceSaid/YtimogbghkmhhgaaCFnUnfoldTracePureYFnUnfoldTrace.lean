/- The plain proof: what the printed functions tell. Conditions: none beyond the statement's own. -/
import Derived.Test.YtimogbghkmhhgaaCFnUnfoldTracePureYUnfold
import Derived.Test.YtimogbghkmhhgaaCFnUnfoldTracePureYHeads
import Derived.WideShapes
import Derived.Test.YtimogbghkmhhgaaCFnUnfoldTracePYx4
import Derived.Test.YtimogbghkmhhgaaCFnUnfoldTracePYx7
import Derived.Test.YtimogbghkmhhgaaCFnUnfoldTracePYx8
namespace Go.Proofs.Ytimogbghkmhhgaa.Pure
open Go.RowKit Go.Proofs.Ytimogbghkmhhgaa.PY Go.Proofs.YtimogbghkmhhgaaW.PrintWords Go.Proofs.YtimogbghkmhhgaaW.PrintLast
set_option linter.unusedVariables false
set_option linter.unusedSimpArgs false
theorem equalRows_l0 (x : List S70) (hx : (x.length : Int) ≤ 1000) (m : Nat) : ∀ i : Int, ((x.length : Int) - i).toNat = m → 0 ≤ i → i ≤ x.length → Evs (fun k => laws_equalRows.l0 k x x i) (fun r => r = true) := by
  induction m with
  | zero =>
    intro i hm h0 h1
    exact Evs.step (fun k => by rw [laws_equalRows.l0]) (Evs.no (by omega) (Evs.ret rfl))
  | succ m ih =>
    intro i hm h0 h1
    have hi : i < (x.length : Int) := by omega
    refine Evs.step (fun k => by rw [laws_equalRows.l0]) (Evs.yes hi (Evs.yes h0 (Evs.yes hi (Evs.no (fun h => (rdiff_iff _ _).1 h rfl) ?_))))
    rw [w64 (x := i + 1) (by omega) (by omega)]
    exact ih (i + 1) (by omega) (by omega) (by omega)
theorem equalRows_ev (x : List S70) (hx : (x.length : Int) ≤ 1000) : Evs (fun k => laws_equalRows.f k x x) (fun r => r = true) := by
  unfold laws_equalRows.f
  exact Evs.yes rfl (equalRows_l0 x hx _ 0 rfl (by omega) (by omega))
theorem addRow_f0 {Q : S34 → Prop} {acc : List S70} {f : S34} (h : ∀ r ∈ acc, Q r.f0) (hf : Q f) : ∀ r ∈ addRow acc f, Q r.f0 := by
  by_cases c : 0 < acc.length ∧ (lastR acc).f0 = f
  · rw [addRow_same c.1 c.2]
    intro r hr
    rcases List.mem_or_eq_of_mem_set hr with hr | hr
    · exact h r hr
    · rw [hr]
      exact h (lastR acc) (rdSR_mem (by omega) (by omega))
  · rw [addRow_other c]
    intro r hr
    rcases List.mem_append.1 hr with hr | hr
    · exact h r hr
    · rw [List.mem_singleton] at hr; rw [hr]; exact hf
theorem foldl_f0 {Q : S34 → Prop} : ∀ (t : List S34) (acc : List S70), (∀ r ∈ acc, Q r.f0) → (∀ c ∈ t, Q c) → ∀ r ∈ t.foldl addRow acc, Q r.f0
  | [], acc, h, _ => h
  | c :: t, acc, h, hf => foldl_f0 t (addRow acc c) (addRow_f0 h (hf c (List.mem_cons_self ..))) (fun x hx => hf x (List.mem_cons_of_mem _ hx))
def OkRows (l : List S70) : Prop := (l.length : Int) ≤ 12 ∧ ∀ x ∈ l, OkF x.f0 ∧ -1 ≤ x.f1 ∧ x.f1 ≤ 1000
theorem OkRows.fold {t : List S34} (h : OkTr t) : OkRows (t.foldl addRow []) := by
  have h1 := foldl_len t []
  have h2 := h.1
  have few := foldl_few t [] 0 (fun r hr => by simp at hr) (by omega)
  refine ⟨by simp at h1; omega, fun x hx => ⟨foldl_f0 (Q := OkF) t [] (fun r hr => by simp at hr) h.2 x hx, ?_⟩⟩
  have := few x hx
  omega
theorem OkRows.set {l : List S70} {i : Nat} {c : S70} (h : OkRows l) (hc : OkF c.f0 ∧ -1 ≤ c.f1 ∧ c.f1 ≤ 1000) : OkRows (l.set i c) :=
  ⟨by simpa using h.1, fun x hx => by rcases List.mem_or_eq_of_mem_set hx with hx | rfl; exact h.2 x hx; exact hc⟩
theorem draw_UnfoldTrace (l : List Int) (h : Bytes l) : Evs (fun k => spec_DrawUnfoldTrace.f k l) OkRows := by
  unfold spec_DrawUnfoldTrace.f
  obtain ⟨r, h1, h2, h3⟩ := newReader_ev l h
  refine Evs.bind (Evs.const (P := fun x => x = r) h1 rfl) (fun _ e => ?_)
  subst e
  refine Evs.bind (goodTrace_ev _ _ h2 (by omega) (by omega)) (fun t ⟨t1, t3, t4⟩ => ?_)
  refine Evs.bind (sfold_ev t.1 (by have := t1.1; omega)) (fun g hg => ?_)
  have ok : OkRows g := by rw [hg]; exact OkRows.fold t1
  have ok1 := ok.1
  refine Evs.ite (fun hp => ?_) (fun _ => Evs.ret ok)
  refine Evs.bind (pick_ev _ _ (g.length : Int) h2 (by omega) (by omega)) (fun a ⟨a1, _, a2⟩ => ?_)
  have a2 := a2 (by omega)
  refine Evs.bind (pick_ev _ _ 12 h2 (by omega) (by omega)) (fun b ⟨b1, _, _⟩ => Evs.ite (fun _ => ?_) (fun _ => Evs.ite (fun _ => ?_) (fun _ => Evs.ret ok)))
  · refine Evs.bind (one_ev _ _ _ h2 (by omega) (by omega) (by simp)) (fun d hd => Evs.yes a2.1 (Evs.yes a2.2 (Evs.ret (ok.set ⟨(ok.2 _ (rdSR_mem a2.1 a2.2)).1, ?_⟩))))
    have d2 := hd.2
    simp only [List.mem_cons, List.not_mem_nil, or_false] at d2
    simp only
    omega
  · exact Evs.yes (by omega) (Evs.yes a2.1 (Evs.yes a2.2 (Evs.ret (ok.set ⟨(ok.2 _ (rdSR_mem (by omega) (by omega))).1, (ok.2 _ (rdSR_mem a2.1 a2.2)).2⟩))))
theorem UnfR.len {l : List S70} {r : List S34 × Bool} (h : UnfR l r) : (r.1.length : Int) ≤ 12 := by
  rcases h with ⟨h1, h2⟩ | ⟨h1, h2⟩
  · rw [h2]; exact h1.2.1.1
  · rw [h2]; simp
theorem FnUnfoldTrace_j0 (l : List S70) (r : List S34 × Bool) (hl : OkRows l) (hr : UnfR l r) : Evs (fun k => laws_FnUnfoldTrace.j0 k l r.1 r.2 r.1 r.2 (!r.2)) (fun y => y = true) := by
  have hrl := hr.len
  have hl1 := hl.1
  refine Evs.step (fun k => by rw [laws_FnUnfoldTrace.j0]) (Evs.ite (fun h => ?_) (fun h => ?_))
  · exact Evs.bind (equalTrace_ev _ _ (by omega)) (fun c hc => Evs.yes (hc.2 rfl) (Evs.ret (by simp)))
  · rcases hr with ⟨h1, h2⟩ | ⟨h1, h2⟩
    case inr => exact absurd (by rw [h2]; rfl) h
    have hs : SmallTr r.1 := ⟨by omega, fun c hc => by
      rw [h2] at hc
      obtain ⟨x, hx, hc⟩ := List.mem_flatMap.1 hc
      rw [List.eq_of_mem_replicate hc]
      have := (hl.2 x hx).1.1
      omega⟩
    refine Evs.bind (FoldTrace_ev _ hs) (fun g hg => ?_)
    have e : g = l := by
      rcases hg with ⟨_, hg⟩ | ⟨q, _⟩
      · rw [hg, h2]; exact h1.2.2
      · exact absurd (by rw [h2]; exact h1.2.1) q
    subst e
    refine Evs.bind (equalRows_ev g (by omega)) (fun c hc => Evs.yes hc (Evs.bind (ValidTrace_ev _ hs) (fun v hv => Evs.ret (hv.2 ?_))))
    rw [h2]; exact h1.2.1
theorem FnUnfoldTrace : laws_FnUnfoldTrace.Pure := by
  intro l h0 h1 h2
  apply Evs.done
  unfold laws_FnUnfoldTrace.f
  refine Evs.ite (fun _ => Evs.ret rfl) (fun _ => ?_)
  refine Evs.bind (draw_UnfoldTrace l (bytes_of_wf h2)) (fun d hd => ?_)
  have hd1 := hd.1
  have hz : ∀ x ∈ d, (x.f0.f0.size : Int) ≤ 1099511627776 := fun x hx => by have := (hd.2 x hx).1.1; omega
  refine Evs.bind (UnfoldTrace_ev d (by omega) hz) (fun a ha => Evs.bind (sUnfoldTrace_ev d (by omega) (fun x hx => by have := (hd.2 x hx).2; omega) hz) (fun b hb => ?_))
  have e := ha.uniq hb
  subst e
  have hl := ha.len
  exact Evs.bind (equalTrace_ev _ _ (by omega)) (fun c hc => Evs.yes (hc.2 rfl) (Evs.no (by simp) (FnUnfoldTrace_j0 d a hd ha)))
end Go.Proofs.Ytimogbghkmhhgaa.Pure
