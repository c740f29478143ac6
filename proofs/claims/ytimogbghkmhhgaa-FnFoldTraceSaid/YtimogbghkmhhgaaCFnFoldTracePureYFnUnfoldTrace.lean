/- The plain proof: what the printed functions tell. Conditions: none beyond the statement's own. -/
import Derived.Test.YtimogbghkmhhgaaCFnFoldTracePureYUnfold
import Derived.Test.YtimogbghkmhhgaaCFnFoldTracePureYHeads
import Derived.WideShapes
import Derived.Test.YtimogbghkmhhgaaCFnFoldTracePYx4
import Derived.Test.YtimogbghkmhhgaaCFnFoldTracePYx7
import Derived.Test.YtimogbghkmhhgaaCFnFoldTracePYx8
namespace Go.Proofs.Ytimogbghkmhhgaa.Pure
open Go.RowKit Go.Proofs.Ytimogbghkmhhgaa.PY Go.Proofs.YtimogbghkmhhgaaW.PrintWords Go.Proofs.YtimogbghkmhhgaaW.PrintLast
set_option linter.unusedVariables false
set_option linter.unusedSimpArgs false
theorem equalRows_l0 (x : List S70) (hx : (x.length : Int) ≤ 1000) (m : Nat) : ∀ i : Int, ((x.length : Int) - i).toNat = m → 0 ≤ i → i ≤ x.length → Evs (fun k => laws_equalRows.l0 k x x i) (fun r => r = true) := by
  induction m with
  | zero =>
    intro i hm h0 h1
    exact Evs.step (fun k => by rw [laws_equalRows.l0]) (Evs.no (by omega) (Evs.ret rfl))
  | succ m ih =>
    intro i hm h0 h1
    have hi : i < (x.length : Int) := by omega
    refine Evs.step (fun k => by rw [laws_equalRows.l0]) (Evs.yes hi (Evs.yes h0 (Evs.yes hi (Evs.no (fun h => (rdiff_iff _ _).1 h rfl) ?_))))
    rw [w64 (x := i + 1) (by omega) (by omega)]
    exact ih (i + 1) (by omega) (by omega) (by omega)
theorem equalRows_ev (x : List S70) (hx : (x.length : Int) ≤ 1000) : Evs (fun k => laws_equalRows.f k x x) (fun r => r = true) := by
  unfold laws_equalRows.f
  exact Evs.yes rfl (equalRows_l0 x hx _ 0 rfl (by omega) (by omega))
theorem addRow_f0 {Q : S34 → Prop} {acc : List S70} {f : S34} (h : ∀ r ∈ acc, Q r.f0) (hf : Q f) : ∀ r ∈ addRow acc f, Q r.f0 := by
  by_cases c : 0 < acc.length ∧ (lastR acc).f0 = f
  · rw [addRow_same c.1 c.2]
    intro r hr
    rcases List.mem_or_eq_of_mem_set hr with hr | hr
    · exact h r hr
    · rw [hr]
      exact h (lastR acc) (rdSR_mem (by omega) (by omega))
  · rw [addRow_other c]
    intro r hr
    rcases List.mem_append.1 hr with hr | hr
    · exact h r hr
    · rw [List.mem_singleton] at hr; rw [hr]; exact hf
theorem foldl_f0 {Q : S34 → Prop} : ∀ (t : List S34) (acc : List S70), (∀ r ∈ acc, Q r.f0) → (∀ c ∈ t, Q c) → ∀ r ∈ t.foldl addRow acc, Q r.f0
  | [], acc, h, _ => h
  | c :: t, acc, h, hf => foldl_f0 t (addRow acc c) (addRow_f0 h (hf c (List.mem_cons_self ..))) (fun x hx => hf x (List.mem_cons_of_mem _ hx))
def OkRows (l : List S70) : Prop := (l.length : Int) ≤ 12 ∧ ∀ x ∈ l, OkF x.f0 ∧ -1 ≤ x.f1 ∧ x.f1 ≤ 1000
theorem OkRows.fold {t : List S34} (h : OkTr t) : OkRows (t.foldl addRow []) := by
  have h1 := foldl_len t []
  have h2 := h.1
  have few := foldl_few t [] 0 (fun r hr => by simp at hr) (by omega)
  refine ⟨by simp at h1; omega, fun x hx => ⟨foldl_f0 (Q := OkF) t [] (fun r hr => by simp at hr) h.2 x hx, ?_⟩⟩
  have := few x hx
  omega
theorem OkRows.set {l : List S70} {i : Nat} {c : S70} (h : OkRows l) (hc : OkF c.f0 ∧ -1 ≤ c.f1 ∧ c.f1 ≤ 1000) : OkRows (l.set i c) :=
  ⟨by simpa using h.1, fun x hx => by rcases List.mem_or_eq_of_mem_set hx with hx | rfl; exact h.2 x hx; exact hc⟩
theorem UnfR.len {l : List S70} {r : List S34 × Bool} (h : UnfR l r) : (r.1.length : Int) ≤ 12 := by
  rcases h with ⟨h1, h2⟩ | ⟨h1, h2⟩
  · rw [h2]; exact h1.2.1.1
  · rw [h2]; simp
end Go.Proofs.Ytimogbghkmhhgaa.Pure
