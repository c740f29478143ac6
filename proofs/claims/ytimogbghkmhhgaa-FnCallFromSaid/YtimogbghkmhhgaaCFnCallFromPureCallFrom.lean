/- The plain proof: what the printed functions tell. Conditions: none beyond the statement's own. -/
import Derived.Test.YtimogbghkmhhgaaCFnCallFromPureConcat
import Derived.Test.YtimogbghkmhhgaaCFnCallFromPTx7
namespace Go.Proofs.Ytimogbghkmhhgaa.Pure
open Go.RowKit Go.Proofs.Ytimogbghkmhhgaa.PT Go.Proofs.YtimogbghkmhhgaaW.PrintWords
set_option linter.unusedVariables false
set_option linter.unusedSimpArgs false
def CallR (t : List S34) (f : S34) (r : List S34 × Bool) : Prop := ((ValidTr t ∧ ValidTr (f :: t)) ∧ r = (f :: t, true)) ∨ (¬ (ValidTr t ∧ ValidTr (f :: t)) ∧ r = ([], false))
theorem CallR.uniq {t : List S34} {f : S34} {r s : List S34 × Bool} (h : CallR t f r) (k : CallR t f s) : r = s := by
  rcases h with ⟨h1, h2⟩ | ⟨h1, h2⟩ <;> rcases k with ⟨k1, k2⟩ | ⟨k1, k2⟩
  · rw [h2, k2]
  · exact absurd h1 k1
  · exact absurd k1 h1
  · rw [h2, k2]
theorem CallR.len {t : List S34} {f : S34} {r : List S34 × Bool} (h : CallR t f r) : (r.1.length : Int) ≤ 12 := by
  rcases h with ⟨h1, h2⟩ | ⟨h1, h2⟩
  · have := h1.2.1
    rw [h2]; exact this
  · rw [h2]; simp
theorem SmallTr.cons {t : List S34} {f : S34} (h : SmallTr t) (hl : (t.length : Int) ≤ 1048576) (hf : (f.f0.size : Int) ≤ 1099511627776) : SmallTr (f :: t) :=
  ⟨by simp; omega, fun x hx => by
    rcases List.mem_cons.1 hx with rfl | hx
    · exact hf
    · exact h.2 x hx⟩
theorem CallFrom_ev (t : List S34) (f : S34) (ht : SmallTr t) (hl : (t.length : Int) ≤ 1048576) (hf : (f.f0.size : Int) ≤ 1099511627776) : Evs (fun k => impl_CallFrom.f k t f.f0 f.f1) (CallR t f) := by
  unfold impl_CallFrom.f
  refine Evs.bind (ValidTrace_ev t ht) (fun a ha => Evs.ite (fun h => ?_) (fun h => Evs.ret (.inr ⟨fun q => h (ha.2 q.1), rfl⟩)))
  refine Evs.bind (Concat_ev [f] t (by simp) (by omega)) (fun c hc => ?_)
  rw [List.singleton_append] at hc
  subst hc
  refine Evs.bind (traceMade_ev _ (ht.cons hl hf)) (fun m hm => Evs.ret ?_)
  rcases hm with ⟨m1, m2⟩ | ⟨m1, m2⟩
  · exact .inl ⟨⟨ha.1 h, m1⟩, by rw [m2]⟩
  · exact .inr ⟨fun q => m1 q.2, by rw [m2]⟩
theorem sCallFrom_ev (t : List S34) (f : S34) (ht : SmallTr t) (hl : (t.length : Int) ≤ 1048576) (hf : (f.f0.size : Int) ≤ 1099511627776) : Evs (fun k => spec_CallFrom.f k t f.f0 f.f1) (CallR t f) := by
  unfold spec_CallFrom.f
  refine Evs.bind (P := fun y => [f] = y) (Evs.ret rfl) (fun y hy => ?_)
  subst hy
  refine Evs.yes (by simp; omega) (Evs.bind (P := fun y => f :: t = y) (Evs.ret rfl) (fun y hy => ?_))
  subst hy
  refine Evs.bind (validTrace_ev t ht) (fun a ha => Evs.ite (fun h => ?_) (fun h => Evs.ret (.inr ⟨fun q => h (ha.2 q.1), rfl⟩)))
  exact Evs.bind (validTrace_ev _ (ht.cons hl hf)) (fun b hb => Evs.ite (fun h' => Evs.ret (.inl ⟨⟨ha.1 h, hb.1 h'⟩, rfl⟩)) (fun h' => Evs.ret (.inr ⟨fun q => h' (hb.2 q.2), rfl⟩)))
end Go.Proofs.Ytimogbghkmhhgaa.Pure
