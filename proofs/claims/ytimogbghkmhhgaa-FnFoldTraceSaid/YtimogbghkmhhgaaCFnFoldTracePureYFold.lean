/- The plain proof: what the printed functions tell. Conditions: none beyond the statement's own. -/
import Derived.Test.YtimogbghkmhhgaaCFnFoldTracePureYTrace
import Derived.WideShapes
import Derived.Test.YtimogbghkmhhgaaCFnFoldTracePYx5
import Derived.Test.YtimogbghkmhhgaaCFnFoldTracePYx7
import Derived.Test.YtimogbghkmhhgaaCFnFoldTracePYx3
import Derived.Test.YtimogbghkmhhgaaCFnFoldTracePYx8
namespace Go.Proofs.Ytimogbghkmhhgaa.Pure
open Go.RowKit Go.Proofs.Ytimogbghkmhhgaa.PY Go.Proofs.YtimogbghkmhhgaaW.PrintWords
set_option linter.unusedVariables false
set_option linter.unusedSimpArgs false
theorem rtl_inj {a b : ByteArray} (h : a.toList = b.toList) : a = b := by
  rw [ByteArray.toList_eq, ByteArray.toList_eq] at h
  exact Go.WideShapes.bytes_inj h
theorem fsame_iff (a b : S34) : ((a.f0.toList == b.f0.toList) && (a.f1 == b.f1)) = true ↔ a = b := by
  rw [Bool.and_eq_true, beq_iff_eq, beq_iff_eq]
  refine ⟨fun ⟨h, k⟩ => ?_, fun h => by subst h; exact ⟨rfl, rfl⟩⟩
  cases a
  cases b
  have := rtl_inj h
  simp only at this k
  rw [this, k]
theorem rdSR_at {g : List S70} {i : Int} (h0 : 0 ≤ i) (h : i < (g.length : Int)) : rd_T70 g i = g[i.toNat]'(by omega) := by
  unfold rd_T70; rw [getD_nat _ _ _ (by omega)]
theorem rdSR_mem {t : List S70} {i : Int} (h0 : 0 ≤ i) (h : i < (t.length : Int)) : rd_T70 t i ∈ t := by
  rw [rdSR_at h0 h]; exact List.getElem_mem _
def lastR (acc : List S70) : S70 := rd_T70 acc ((acc.length : Int) - 1)
noncomputable def addRow (acc : List S70) (f : S34) : List S70 :=
  haveI := Classical.propDecidable (0 < acc.length ∧ (lastR acc).f0 = f)
  if 0 < acc.length ∧ (lastR acc).f0 = f then acc.set ((acc.length : Int) - 1).toNat ⟨(lastR acc).f0, (lastR acc).f1 + 1⟩ else acc ++ [⟨f, 1⟩]
theorem addRow_same {acc : List S70} {f : S34} (h : 0 < acc.length) (k : (lastR acc).f0 = f) : addRow acc f = acc.set ((acc.length : Int) - 1).toNat ⟨(lastR acc).f0, (lastR acc).f1 + 1⟩ := by
  unfold addRow; exact if_pos ⟨h, k⟩
theorem addRow_other {acc : List S70} {f : S34} (h : ¬ (0 < acc.length ∧ (lastR acc).f0 = f)) : addRow acc f = acc ++ [⟨f, 1⟩] := by
  unfold addRow; exact if_neg h
theorem addRow_len (acc : List S70) (f : S34) : (addRow acc f).length ≤ acc.length + 1 ∧ 0 < (addRow acc f).length := by
  by_cases h : 0 < acc.length ∧ (lastR acc).f0 = f
  · rw [addRow_same h.1 h.2]; simp; omega
  · rw [addRow_other h]; simp
theorem addRow_last (acc : List S70) (f : S34) : (lastR (addRow acc f)).f0 = f := by
  by_cases h : 0 < acc.length ∧ (lastR acc).f0 = f
  · rw [addRow_same h.1 h.2]
    unfold lastR
    rw [rdSR_at (by simp; omega) (by simp; omega)]
    simp
    exact h.2
  · rw [addRow_other h]
    unfold lastR
    rw [rdSR_at (by simp <;> omega) (by simp <;> omega)]
    simp
def Few (acc : List S70) (n : Int) : Prop := ∀ r ∈ acc, 1 ≤ r.f1 ∧ r.f1 ≤ n
theorem addRow_few {acc : List S70} {f : S34} {n : Int} (h : Few acc n) (hn : 0 ≤ n) : Few (addRow acc f) (n + 1) := by
  by_cases k : 0 < acc.length ∧ (lastR acc).f0 = f
  · rw [addRow_same k.1 k.2]
    intro r hr
    rcases List.mem_or_eq_of_mem_set hr with hr | rfl
    · have := h r hr; omega
    · have := h (lastR acc) (rdSR_mem (by omega) (by omega))
      simp only
      omega
  · rw [addRow_other k]
    intro r hr
    rw [List.mem_append, List.mem_singleton] at hr
    rcases hr with hr | rfl
    · have := h r hr; omega
    · simp only; omega
theorem foldl_len (t : List S34) : ∀ (acc : List S70), (t.foldl addRow acc).length ≤ acc.length + t.length := by
  induction t with
  | nil => intro acc; simp
  | cons f fs ih =>
    intro acc
    have := ih (addRow acc f)
    have := (addRow_len acc f).1
    simp only [List.foldl_cons, List.length_cons]
    omega
theorem drop_rdSFr {t : List S34} {i : Int} (h0 : 0 ≤ i) (h : i < (t.length : Int)) : t.drop i.toNat = rd_T34 t i :: t.drop (i + 1).toNat := by
  unfold rd_T34
  rw [getD_nat _ _ _ (by omega), show (i + 1).toNat = i.toNat + 1 by omega]
  exact List.drop_eq_getElem_cons (by omega)
theorem rows_l0 (t : List S34) (ht : (t.length : Int) ≤ 12) (m : Nat) : ∀ (i : Int) (acc : List S70), ((t.length : Int) - i).toNat = m → 0 ≤ i → i ≤ t.length → (acc.length : Int) ≤ i → Few acc i → (i = 0 ∨ (0 < acc.length ∧ (lastR acc).f0 = rd_T34 t (i - 1))) →
    Evs (fun k => impl_rows.l0 k t acc t t.length i) (fun r => r = (t.drop i.toNat).foldl addRow acc) := by
  induction m with
  | zero =>
    intro i acc hm h0 h1 ha hf hl
    refine Evs.step (fun k => by rw [impl_rows.l0]) (Evs.no (by omega) (Evs.bind (P := fun r => r = acc) (by unfold impl_Row_85.f; exact Evs.ret rfl) (fun r hr => Evs.ret (by rw [hr, List.drop_eq_nil_of_le (by omega)]; rfl))))
  | succ m ih =>
    intro i acc hm h0 h1 ha hf hl
    have hi : i < (t.length : Int) := by omega
    have al := addRow_len acc (rd_T34 t i)
    have next : Evs (fun k => impl_rows.l0 k t (addRow acc (rd_T34 t i)) t t.length (i + 1)) (fun r => r = (t.drop i.toNat).foldl addRow acc) := by
      rw [drop_rdSFr h0 hi, List.foldl_cons]
      refine ih (i + 1) _ (by omega) (by omega) (by omega) (by omega) (addRow_few hf h0) (.inr ⟨al.2, ?_⟩)
      rw [addRow_last, show i + 1 - 1 = i by omega]
    have put : ¬ (0 < acc.length ∧ (lastR acc).f0 = rd_T34 t i) → Evs (fun k => if acc.length < 4398046511104 then impl_rows.l0 k t (acc ++ [(⟨(⟨(rd_T34 t i).f0, (rd_T34 t i).f1⟩ : S34), 1⟩ : S70)]) t t.length (i + 1) else none) (fun r => r = (t.drop i.toNat).foldl addRow acc) := fun hn => by
      refine Evs.yes (by omega) ?_
      rw [addRow_other hn] at next
      exact next
    refine Evs.step (fun k => by rw [impl_rows.l0]) (Evs.yes hi (Evs.yes h0 (Evs.yes hi ?_)))
    rw [w64 (x := i + 1) (by omega) (by omega)]
    refine Evs.ite (fun hp => ?_) (fun hp => put (fun q => ?_))
    · rw [w64 (x := i - 1) (by omega) (by omega)]
      obtain ⟨l1, l2⟩ := hl.resolve_left (by omega)
      refine Evs.yes (by omega) (Evs.yes (by omega) (Evs.ite (fun h => ?_) (fun h => put (fun q => h ((fsame_iff _ _).2 (by rw [← l2, q.2]))))))
      have e := (fsame_iff _ _).1 h
      have hb := hf (lastR acc) (rdSR_mem (by omega) (by omega))
      rw [w64 (x := (acc.length : Int) - 1) (by omega) (by omega)]
      change Evs (fun k => if 0 ≤ (acc.length : Int) - 1 then (if (acc.length : Int) - 1 < acc.length then impl_rows.l0 k t (acc.set ((acc.length : Int) - 1).toNat (⟨(⟨(lastR acc).f0.f0, (lastR acc).f0.f1⟩ : S34), wrap64 ((lastR acc).f1 + 1)⟩ : S70)) t t.length (i + 1) else none) else none) _
      rw [w64 (x := (lastR acc).f1 + 1) (by omega) (by omega)]
      refine Evs.yes (by omega) (Evs.yes (by omega) ?_)
      rw [addRow_same l1 (by rw [l2, e])] at next
      exact next
    · have : i = 0 := by omega
      omega
theorem sfold_l0 (t : List S34) (ht : (t.length : Int) ≤ 1000) (m : Nat) : ∀ (i : Int) (acc : List S70), ((t.length : Int) - i).toNat = m → 0 ≤ i → i ≤ t.length → (acc.length : Int) ≤ i → Few acc i →
    Evs (fun k => spec_fold.l0 k t acc i) (fun r => r = (t.drop i.toNat).foldl addRow acc) := by
  induction m with
  | zero =>
    intro i acc hm h0 h1 ha hf
    exact Evs.step (fun k => by rw [spec_fold.l0]) (Evs.no (by omega) (Evs.ret (by rw [List.drop_eq_nil_of_le (by omega)]; rfl)))
  | succ m ih =>
    intro i acc hm h0 h1 ha hf
    have hi : i < (t.length : Int) := by omega
    have al := addRow_len acc (rd_T34 t i)
    have next : Evs (fun k => spec_fold.l0 k t (addRow acc (rd_T34 t i)) (i + 1)) (fun r => r = (t.drop i.toNat).foldl addRow acc) := by
      rw [drop_rdSFr h0 hi, List.foldl_cons]
      exact ih (i + 1) _ (by omega) (by omega) (by omega) (by omega) (addRow_few hf h0)
    have put : ¬ (0 < acc.length ∧ (lastR acc).f0 = rd_T34 t i) → Evs (fun k => if acc.length < 4398046511104 then spec_fold.l0 k t (acc ++ [(⟨(⟨(rd_T34 t i).f0, (rd_T34 t i).f1⟩ : S34), 1⟩ : S70)]) (i + 1) else none) (fun r => r = (t.drop i.toNat).foldl addRow acc) := fun hn => by
      refine Evs.yes (by omega) ?_
      rw [addRow_other hn] at next
      exact next
    refine Evs.step (fun k => by rw [spec_fold.l0]) (Evs.yes hi ?_)
    rw [w64 (x := i + 1) (by omega) (by omega), w64 (x := (acc.length : Int) - 1) (by omega) (by omega)]
    refine Evs.ite (fun hp => Evs.yes (by omega) (Evs.yes (by omega) (Evs.yes h0 ?_))) (fun hp => Evs.yes h0 (put (fun q => by omega)))
    have hb := hf (lastR acc) (rdSR_mem (by omega) (by omega))
    change Evs (fun k => if (((lastR acc).f0.f0.toList == (rd_T34 t i).f0.toList) && ((lastR acc).f0.f1 == (rd_T34 t i).f1)) = true then spec_fold.l0 k t (acc.set ((acc.length : Int) - 1).toNat (⟨(⟨(lastR acc).f0.f0, (lastR acc).f0.f1⟩ : S34), wrap64 ((lastR acc).f1 + 1)⟩ : S70)) (i + 1) else _) _
    rw [w64 (x := (lastR acc).f1 + 1) (by omega) (by omega)]
    refine Evs.ite (fun h => ?_) (fun h => put (fun q => h ((fsame_iff _ _).2 q.2)))
    rw [addRow_same (by omega) ((fsame_iff _ _).1 h)] at next
    exact next
def FoldR (t : List S34) (r : List S70) : Prop := (ValidTr t ∧ r = t.foldl addRow []) ∨ (¬ ValidTr t ∧ r = [])
theorem FoldR.uniq {t : List S34} {r s : List S70} (h : FoldR t r) (k : FoldR t s) : r = s := by
  rcases h with ⟨h1, h2⟩ | ⟨h1, h2⟩ <;> rcases k with ⟨k1, k2⟩ | ⟨k1, k2⟩
  · rw [h2, k2]
  · exact absurd h1 k1
  · exact absurd k1 h1
  · rw [h2, k2]
theorem FoldR.len {t : List S34} {r : List S70} (h : FoldR t r) : (r.length : Int) ≤ 12 := by
  rcases h with ⟨h1, h2⟩ | ⟨h1, h2⟩
  · have := h1.1
    have := foldl_len t []
    rw [h2]; simp at this; omega
  · rw [h2]; simp
theorem rows_ev (t : List S34) (ht : (t.length : Int) ≤ 12) : Evs (fun k => impl_rows.f k t) (fun r => r = t.foldl addRow []) :=
  (rows_l0 t ht _ 0 [] rfl (by omega) (by omega) (by simp) (fun r hr => by simp at hr) (.inl rfl)).imp fun r hr => by rw [hr]; rfl
theorem FoldTrace_ev (t : List S34) (ht : SmallTr t) : Evs (fun k => impl_FoldTrace.f k t) (FoldR t) := by
  unfold impl_FoldTrace.f
  refine Evs.bind (ValidTrace_ev t ht) (fun a ha => Evs.ite (fun h => ?_) (fun h => Evs.ret (.inr ⟨fun q => h (ha.2 q), rfl⟩)))
  exact Evs.bind (rows_ev t (ha.1 h).1) (fun r hr => Evs.ret (.inl ⟨ha.1 h, hr⟩))
theorem sfold_ev (t : List S34) (ht : (t.length : Int) ≤ 1000) : Evs (fun k => spec_fold.f k t) (fun r => r = t.foldl addRow []) :=
  (sfold_l0 t ht _ 0 [] rfl (by omega) (by omega) (by simp) (fun r hr => by simp at hr)).imp fun r hr => by rw [hr]; rfl
theorem sFoldTrace_ev (t : List S34) (ht : SmallTr t) : Evs (fun k => spec_FoldTrace.f k t) (FoldR t) := by
  unfold spec_FoldTrace.f
  refine Evs.bind (validTrace_ev t ht) (fun a ha => Evs.ite (fun h => ?_) (fun h => Evs.ret (.inr ⟨fun q => h (ha.2 q), rfl⟩)))
  exact Evs.bind (sfold_ev t (by have := (ha.1 h).1; omega)) (fun r hr => Evs.ret (.inl ⟨ha.1 h, hr⟩))
end Go.Proofs.Ytimogbghkmhhgaa.Pure
