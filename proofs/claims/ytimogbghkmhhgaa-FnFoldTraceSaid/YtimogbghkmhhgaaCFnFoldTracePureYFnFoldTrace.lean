/- The plain proof: what the printed functions tell. Conditions: none beyond the statement's own. -/
import Derived.Test.YtimogbghkmhhgaaCFnFoldTracePureYFnUnfoldTrace
import Derived.Test.YtimogbghkmhhgaaCFnFoldTracePYx8
import Derived.Test.YtimogbghkmhhgaaCFnFoldTracePYx9
namespace Go.Proofs.Ytimogbghkmhhgaa.Pure
open Go.RowKit Go.Proofs.Ytimogbghkmhhgaa.PY Go.Proofs.YtimogbghkmhhgaaW.PrintWords Go.Proofs.YtimogbghkmhhgaaW.PrintLast
set_option linter.unusedVariables false
set_option linter.unusedSimpArgs false
theorem last_snoc (a : List S70) (x : S70) : lastR (a ++ [x]) = x := by
  unfold lastR
  rw [rdSR_at (by simp) (by simp <;> omega)]
  simp
theorem addRow_snoc_same (a : List S70) (x : S70) (f : S34) (h : x.f0 = f) : addRow (a ++ [x]) f = a ++ [⟨x.f0, x.f1 + 1⟩] := by
  rw [addRow_same (by simp) (by rw [last_snoc]; exact h), last_snoc]
  have e : (((a ++ [x]).length : Int) - 1).toNat = a.length := by simp
  rw [e, List.set_append_right _ _ (Nat.le_refl _)]
  simp
theorem U_addRow {acc : List S70} {f : S34} (h : ∀ r ∈ acc, 1 ≤ r.f1) : U (addRow acc f) = U acc ++ [f] := by
  by_cases c : 0 < acc.length ∧ (lastR acc).f0 = f
  · rcases List.eq_nil_or_concat acc with e | ⟨a, x, e⟩
    · rw [e] at c; simp at c
    · rw [List.concat_eq_append] at e
      subst e
      rw [last_snoc] at c
      have hx := h x (by simp)
      rw [addRow_snoc_same a x f c.2, U_append, U_append, U_cons, U_cons, List.append_assoc]
      congr 1
      rw [show (x.f1 + 1).toNat = x.f1.toNat + 1 by omega, List.replicate_succ', c.2]
      simp [U]
  · rw [addRow_other c, U_append, U_cons]
    rfl
theorem U_fold : ∀ (t : List S34) (acc : List S70) (n : Int), Few acc n → 0 ≤ n → U (t.foldl addRow acc) = U acc ++ t
  | [], acc, n, _, _ => by simp
  | c :: t, acc, n, h, hn => by
    rw [List.foldl_cons, U_fold t _ (n + 1) (addRow_few h hn) (by omega), U_addRow (fun r hr => (h r hr).1), List.append_assoc]
    rfl
def Adj : List S70 → Prop
  | [] => True
  | [_] => True
  | a :: b :: l => a.f0 ≠ b.f0 ∧ Adj (b :: l)
theorem Adj.snoc : ∀ {a : List S70} {x y : S70}, Adj (a ++ [x]) → x.f0 ≠ y.f0 → Adj (a ++ [x] ++ [y])
  | [], x, y, _, h => ⟨h, trivial⟩
  | [a], x, y, h, k => ⟨h.1, k, trivial⟩
  | a :: b :: l, x, y, h, k => ⟨h.1, Adj.snoc (a := b :: l) h.2 k⟩
theorem Adj.last : ∀ {a : List S70} {x y : S70}, Adj (a ++ [x]) → x.f0 = y.f0 → Adj (a ++ [y])
  | [], x, y, _, _ => trivial
  | [a], x, y, h, k => ⟨by rw [← k]; exact h.1, trivial⟩
  | a :: b :: l, x, y, h, k => ⟨h.1, Adj.last (a := b :: l) h.2 k⟩
theorem Adj.add {acc : List S70} {f : S34} (h : Adj acc) : Adj (addRow acc f) := by
  rcases List.eq_nil_or_concat acc with e | ⟨a, x, e⟩
  · subst e
    rw [addRow_other (by simp)]
    trivial
  · rw [List.concat_eq_append] at e
    subst e
    by_cases c : x.f0 = f
    · rw [addRow_snoc_same a x f c]
      exact Adj.last h rfl
    · rw [addRow_other (fun q => c (by rw [← last_snoc a x]; exact q.2))]
      exact Adj.snoc h c
theorem Adj.fold : ∀ (t : List S34) (acc : List S70), Adj acc → Adj (t.foldl addRow acc)
  | [], acc, h => h
  | c :: t, acc, h => Adj.fold t _ h.add
theorem Adj.get : ∀ {l : List S70} {i : Nat} (h : i + 1 < l.length), Adj l → (l[i]'(by omega)).f0 ≠ (l[i + 1]'h).f0
  | [], i, h, _ => by simp at h
  | [_], i, h, _ => by simp at h
  | a :: b :: l, 0, h, k => k.1
  | a :: b :: l, i + 1, h, k => Adj.get (l := b :: l) (by simpa using h) k.2
theorem FnFoldTrace_l0 (t : List S34) (g : List S70) (ht : (t.length : Int) ≤ 12) (hg : (g.length : Int) ≤ 12) (hj : Adj g) (hf : ∀ r ∈ g, 1 ≤ r.f1) (m : Nat) : ∀ i : Int, ((g.length : Int) - i).toNat = m → 1 ≤ i →
    Evs (fun k => laws_FnFoldTrace.l0 k t g t true i) (fun y => y = true) := by
  induction m with
  | zero =>
    intro i hm h0
    exact Evs.step (fun k => by rw [laws_FnFoldTrace.l0]) (Evs.no (by omega) (Evs.yes rfl (Evs.bind (equalTrace_ev t t (by omega)) (fun c hc => Evs.ret (hc.2 rfl)))))
  | succ m ih =>
    intro i hm h0
    have hi : i < (g.length : Int) := by omega
    refine Evs.step (fun k => by rw [laws_FnFoldTrace.l0]) (Evs.yes hi ?_)
    rw [w64 (x := i - 1) (by omega) (by omega), w64 (x := i + 1) (by omega) (by omega)]
    have hne : (rd_T70 g (i - 1)).f0 ≠ (rd_T70 g i).f0 := by
      rw [rdSR_at (by omega) (by omega), rdSR_at (by omega) hi]
      have := Adj.get (l := g) (i := (i - 1).toNat) (by omega) hj
      simpa only [show (i - 1).toNat + 1 = i.toNat by omega] using this
    have h1 := hf _ (rdSR_mem (by omega) hi)
    exact Evs.yes (by omega) (Evs.yes (by omega) (Evs.yes (by omega) (Evs.no (fun z => hne ((fsame_iff _ _).1 z)) (Evs.no (by omega) (ih (i + 1) (by omega) (by omega))))))
theorem FnFoldTrace_j0 (t : List S34) (g : List S70) (b : Bool) (ht : OkTr t) (hg : FoldR t g) (hb : b = false → ValidTr t) : Evs (fun k => laws_FnFoldTrace.j0 k t g b) (fun y => y = true) := by
  have hgl := hg.len
  refine Evs.step (fun k => by rw [laws_FnFoldTrace.j0]) (Evs.ite (fun h => ?_) (fun h => ?_))
  · refine Evs.bind (sFoldTrace_ev t ht.small) (fun s hs => ?_)
    have e := hg.uniq hs
    subst e
    exact Evs.bind (equalRows_ev g (by omega)) (fun c hc => Evs.ret hc)
  · have hv := hb (by simpa using h)
    rcases hg with ⟨_, hg⟩ | ⟨q, _⟩
    case inr => exact absurd hv q
    have few := foldl_few t [] 0 (fun r hr => by simp at hr) (by omega)
    have hu : U g = t := by rw [hg, U_fold t [] 0 (fun r hr => by simp at hr) (by omega)]; rfl
    rw [← hg] at few
    have hj : Adj g := by rw [hg]; exact Adj.fold t [] trivial
    have hok : OkRows g := by rw [hg]; exact OkRows.fold ht
    refine Evs.bind (UnfoldTrace_ev g (by omega) (fun x hx => by have := (hok.2 x hx).1.1; omega)) (fun r hr => ?_)
    rcases hr with ⟨_, hr⟩ | ⟨q, _⟩
    case inr => exact absurd ⟨fun x hx => (few x hx).1, by rw [hu]; exact hv, by rw [hu, ← hg]⟩ q
    rw [hr, hu]
    exact FnFoldTrace_l0 t g (by have := ht.1; omega) (by omega) hj (fun r hr => (few r hr).1) _ 1 rfl (by omega)
theorem FnFoldTrace : laws_FnFoldTrace.Pure := by
  intro l h0 h1 h2
  apply Evs.done
  unfold laws_FnFoldTrace.f
  refine Evs.ite (fun _ => Evs.ret rfl) (fun _ => ?_)
  refine Evs.bind (P := OkTr) ?_ (fun t ht => ?_)
  · unfold spec_DrawFoldTrace.f
    obtain ⟨r, h3, h4, h5⟩ := newReader_ev l (bytes_of_wf h2)
    refine Evs.bind (Evs.const (P := fun x => x = r) h3 rfl) (fun _ e => ?_)
    subst e
    exact Evs.bind (someTrace_ev _ _ h4 (by omega) (by omega)) (fun t ⟨t1, _, _⟩ => Evs.ret t1)
  · refine Evs.bind (FoldTrace_ev t ht.small) (fun a ha => Evs.bind (sFoldTrace_ev t ht.small) (fun b hb => ?_))
    have e := ha.uniq hb
    subst e
    have hl := ha.len
    refine Evs.bind (equalRows_ev a (by omega)) (fun c hc => Evs.yes hc (Evs.bind (ValidTrace_ev t ht.small) (fun v hv => FnFoldTrace_j0 t a _ ht ha (fun q => hv.1 (by simpa using q)))))
end Go.Proofs.Ytimogbghkmhhgaa.Pure
