/- The plain proof: what the printed functions tell. Conditions: none beyond the statement's own. -/
import Derived.Test.YtimogbghkmhhgaaCFnFoldTracePureYFold
import Derived.Test.YtimogbghkmhhgaaCFnFoldTracePYx5
import Derived.Test.YtimogbghkmhhgaaCFnFoldTracePYx7
import Derived.Test.YtimogbghkmhhgaaCFnFoldTracePYx6
namespace Go.Proofs.Ytimogbghkmhhgaa.Pure
open Go.RowKit Go.Proofs.Ytimogbghkmhhgaa.PY Go.Proofs.YtimogbghkmhhgaaW.PrintWords
set_option linter.unusedVariables false
set_option linter.unusedSimpArgs false
theorem foldl_few : ∀ (t : List S34) (acc : List S70) (n : Int), Few acc n → 0 ≤ n → Few (t.foldl addRow acc) (n + t.length)
  | [], acc, n, h, _ => by simpa using h
  | c :: t, acc, n, h, hn => by
    rw [List.foldl_cons]
    have := foldl_few t (addRow acc c) (n + 1) (addRow_few h hn) (by omega)
    rwa [show n + ((c :: t).length : Int) = n + 1 + (t.length : Int) by simp; omega]
theorem rdiff_iff (a b : S70) : ((!((a.f0.f0.toList) == (b.f0.f0.toList)) || (!(a.f0.f1 == b.f0.f1))) || (!(a.f1 == b.f1))) = true ↔ a ≠ b := by
  constructor
  · intro h e
    subst e
    simp at h
  · intro h
    refine Classical.byContradiction fun q => h ?_
    simp only [Bool.or_eq_true, Bool.not_eq_true', beq_eq_false_iff_ne, ne_eq, not_or, Decidable.not_not] at q
    obtain ⟨⟨h1, h2⟩, h3⟩ := q
    obtain ⟨⟨a1, a2⟩, a3⟩ := a
    obtain ⟨⟨b1, b2⟩, b3⟩ := b
    have := rtl_inj h1
    simp only at this h2 h3
    rw [this, h2, h3]
theorem drop_rdSR {t : List S70} {i : Int} (h0 : 0 ≤ i) (h : i < (t.length : Int)) : t.drop i.toNat = rd_T70 t i :: t.drop (i + 1).toNat := by
  rw [rdSR_at h0 h, show (i + 1).toNat = i.toNat + 1 by omega]
  exact List.drop_eq_getElem_cons (by omega)
theorem take_rdSR {t : List S70} {i : Int} (h0 : 0 ≤ i) (h : i < (t.length : Int)) : t.take (i + 1).toNat = t.take i.toNat ++ [rd_T70 t i] := by
  rw [rdSR_at h0 h, show (i + 1).toNat = i.toNat + 1 by omega, List.take_add_one, List.getElem?_eq_getElem (by omega)]
  rfl
def U (l : List S70) : List S34 := l.flatMap fun r => List.replicate r.f1.toNat r.f0
theorem U_append (a b : List S70) : U (a ++ b) = U a ++ U b := by simp [U]
theorem U_cons (r : S70) (l : List S70) : U (r :: l) = List.replicate r.f1.toNat r.f0 ++ U l := rfl
def OkU (l : List S70) : Prop := (∀ x ∈ l, 1 ≤ x.f1) ∧ ValidTr (U l) ∧ (U l).foldl addRow [] = l
def UnfR (l : List S70) (r : List S34 × Bool) : Prop := (OkU l ∧ r = (U l, true)) ∨ (¬ OkU l ∧ r = ([], false))
theorem UnfR.uniq {l : List S70} {r s : List S34 × Bool} (h : UnfR l r) (k : UnfR l s) : r = s := by
  rcases h with ⟨h1, h2⟩ | ⟨h1, h2⟩ <;> rcases k with ⟨k1, k2⟩ | ⟨k1, k2⟩
  · rw [h2, k2]
  · exact absurd h1 k1
  · exact absurd k1 h1
  · rw [h2, k2]
theorem equal_l0 (x y : List S70) (hl : x.length = y.length) (hx : (x.length : Int) ≤ 1000) (m : Nat) : ∀ i : Int, ((x.length : Int) - i).toNat = m → 0 ≤ i → i ≤ x.length →
    Evs (fun k => impl_Row_58.l0 k x y x.length i) (fun r => r = true ↔ x.drop i.toNat = y.drop i.toNat) := by
  induction m with
  | zero =>
    intro i hm h0 h1
    exact Evs.step (fun k => by rw [impl_Row_58.l0]) (Evs.no (by omega) (Evs.ret ⟨fun _ => by rw [List.drop_eq_nil_of_le (by omega), List.drop_eq_nil_of_le (by omega)], fun _ => rfl⟩))
  | succ m ih =>
    intro i hm h0 h1
    have hi : i < (x.length : Int) := by omega
    have hy : i < (y.length : Int) := by omega
    rw [drop_rdSR h0 hi, drop_rdSR h0 hy]
    refine Evs.step (fun k => by rw [impl_Row_58.l0]) (Evs.yes hi (Evs.yes h0 (Evs.yes hi (Evs.yes hy ?_))))
    rw [w64 (x := i + 1) (by omega) (by omega)]
    refine Evs.ite (fun h => Evs.ret ⟨fun q => by simp at q, fun q => ?_⟩) (fun h => (ih (i + 1) (by omega) (by omega) (by omega)).imp fun r hr => ?_)
    · injection q with q1 _
      exact absurd q1 ((rdiff_iff _ _).1 h)
    · have e : rd_T70 x i = rd_T70 y i := Classical.byContradiction fun q => h ((rdiff_iff _ _).2 q)
      rw [hr, e]
      exact ⟨fun q => by rw [q], fun q => by injection q⟩
theorem equal_ev (x y : List S70) (hx : (x.length : Int) ≤ 1000) : Evs (fun k => impl_Row_58.f k x y) (fun r => r = true ↔ x = y) := by
  unfold impl_Row_58.f
  refine Evs.ite (fun h => ?_) (fun h => Evs.ret ⟨fun q => by simp at q, fun q => absurd (by rw [q]) h⟩)
  exact equal_l0 x y (by omega) hx _ 0 rfl (by omega) (by omega)
theorem iUnfold_l0 (l : List S70) (hl : (l.length : Int) ≤ 1000) (hs : ∀ x ∈ l, (x.f0.f0.size : Int) ≤ 1099511627776) (m : Nat) : ∀ (i : Int) (acc : List S34), ((l.length : Int) - i).toNat = m → 0 ≤ i → i ≤ l.length → acc = U (l.take i.toNat) → (acc.length : Int) ≤ 12 → (∀ x ∈ l.take i.toNat, 1 ≤ x.f1) → SmallTr acc →
    Evs (fun k => impl_UnfoldTrace.l0 k l acc l l.length i) (UnfR l) := by
  induction m with
  | zero =>
    intro i acc hm h0 h1 ha ha' hf hsm
    rw [List.take_of_length_le (by omega)] at ha hf
    refine Evs.step (fun k => by rw [impl_UnfoldTrace.l0]) (Evs.no (by omega) (Evs.bind (rows_ev acc ha') (fun r hr => ?_)))
    have hrl : r.length ≤ 12 := by
      rw [hr]; have := foldl_len acc []; simp at this; omega
    refine Evs.bind (equal_ev r l (by omega)) (fun e he => Evs.ite (fun h => ?_) (fun h => Evs.ret (.inr ⟨fun q => h (he.2 (by rw [hr, ha]; exact q.2.2)), rfl⟩)))
    unfold impl_traceMade.f
    refine Evs.bind (P := fun o => UnfR l o) (Evs.bind (ValidTrace_ev acc hsm) (fun v hv => Evs.ite (fun h2 => ?_) (fun h2 => Evs.ret (.inr ⟨fun q => h2 (hv.2 (by rw [ha]; exact q.2.1)), rfl⟩)))) (fun o ho => Evs.ret ho)
    refine Evs.bind (P := fun r => acc = r) ?_ (fun r2 hr2 => ?_)
    · unfold impl_Frame_69.f
      exact Evs.yes (by omega) (Evs.ret rfl)
    · subst hr2
      refine Evs.bind (P := fun r => acc = r) (by unfold impl_Frame_70.f; exact Evs.ret rfl) (fun r3 hr3 => Evs.ret (.inl ⟨⟨hf, by rw [← ha]; exact hv.1 h2, by rw [← ha, ← hr]; exact he.1 h⟩, by rw [← hr3, ha]⟩))
  | succ m ih =>
    intro i acc hm h0 h1 ha ha' hf hsm
    have hi : i < (l.length : Int) := by omega
    have hmem := rdSR_mem h0 hi
    refine Evs.step (fun k => by rw [impl_UnfoldTrace.l0]) (Evs.yes hi (Evs.yes h0 (Evs.yes hi ?_)))
    rw [w64 (x := i + 1) (by omega) (by omega), w64 (x := 12 - (acc.length : Int)) (by omega) (by omega)]
    have e1 : U (l.take (i + 1).toNat) = acc ++ List.replicate (rd_T70 l i).f1.toNat (rd_T70 l i).f0 := by
      rw [take_rdSR h0 hi, U_append, ← ha, U_cons]; simp [U]
    refine Evs.bind (within_ev _ _ _) (fun b hb => Evs.ite (fun h => ?_) (fun h => Evs.ret (.inr ⟨fun q => h (hb.2 ⟨q.1 _ hmem, ?_⟩), rfl⟩)))
    · obtain ⟨b1, b2⟩ := hb.1 h
      refine Evs.bind (P := fun r => r = List.replicate (rd_T70 l i).f1.toNat (rd_T70 l i).f0) ?_ (fun r hr => Evs.yes (by rw [hr]; simp; omega) ?_)
      · unfold impl_Frame_57.f
        exact Evs.yes ⟨rfl, b1, by omega⟩ (Evs.ret rfl)
      · refine ih (i + 1) _ (by omega) (by omega) (by omega) (by rw [e1, hr]) (by rw [hr]; simp; omega) (fun x hx => ?_) ⟨by rw [hr]; simp; omega, fun c hc => ?_⟩
        · rw [take_rdSR h0 hi] at hx
          rcases List.mem_append.1 hx with hx | hx
          · exact hf x hx
          · rw [List.mem_singleton] at hx; rw [hx]; exact b1
        · rcases List.mem_append.1 hc with hc | hc
          · exact hsm.2 c hc
          · rw [hr] at hc; rw [List.eq_of_mem_replicate hc]; exact hs _ hmem
    · have q1 := q.2.1.1
      have e2 : U l = U (l.take (i + 1).toNat) ++ U (l.drop (i + 1).toNat) := by rw [← U_append, List.take_append_drop]
      rw [e2, e1] at q1
      simp at q1
      have := q.1 _ hmem
      omega
theorem UnfoldTrace_ev (l : List S70) (hl : (l.length : Int) ≤ 1000) (hs : ∀ x ∈ l, (x.f0.f0.size : Int) ≤ 1099511627776) : Evs (fun k => impl_UnfoldTrace.f k l) (UnfR l) :=
  iUnfold_l0 l hl hs _ 0 [] rfl (by omega) (by omega) rfl (by simp) (by simp) ⟨by simp, by simp⟩
end Go.Proofs.Ytimogbghkmhhgaa.Pure
