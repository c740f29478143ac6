/- The plain proof: what the printed functions tell. Conditions: none beyond the statement's own. -/
import Derived.Test.YtoahlfggbeijpaaCFnExactTrimTracePureVTrace
import Derived.Test.YtoahlfggbeijpaaCFnExactTrimTracePVx2
import Derived.Test.YtoahlfggbeijpaaCFnExactTrimTracePVx3
namespace Go.Proofs.Ytoahlfggbeijpaa.Pure
open Go.RowKit Go.Proofs.Ytoahlfggbeijpaa.PV Go.Proofs.YtoahlfggbeijpaaW.PrintWords
set_option linter.unusedVariables false
set_option linter.unusedSimpArgs false
def TrimR (t : List S48) (n : Int) (r : List S48) : Prop := (ValidTr t ∧ r = impl_TrimTrace.g n t) ∨ (¬ ValidTr t ∧ r = [])
theorem TrimR.uniq {t : List S48} {n : Int} {r s : List S48} (h : TrimR t n r) (k : TrimR t n s) : r = s := by
  rcases h with ⟨h1, h2⟩ | ⟨h1, h2⟩ <;> rcases k with ⟨k1, k2⟩ | ⟨k1, k2⟩
  · rw [h2, k2]
  · exact absurd h1 k1
  · exact absurd k1 h1
  · rw [h2, k2]
theorem trimG_len (t : List S48) (n : Int) : (impl_TrimTrace.g n t).length ≤ t.length := by
  unfold impl_TrimTrace.g
  split <;> split <;> simp <;> omega
theorem TrimR.len {t : List S48} {n : Int} {r : List S48} (h : TrimR t n r) : r.length ≤ t.length ∧ (r.length : Int) ≤ 12 := by
  rcases h with ⟨h1, h2⟩ | ⟨h1, h2⟩
  · have := h1.1
    have := trimG_len t n
    rw [h2]; omega
  · rw [h2]; simp
theorem trimG_take (t : List S48) {n : Int} (h0 : 0 ≤ n) (h1 : n ≤ t.length) : impl_TrimTrace.g n t = t.take n.toNat := by
  unfold impl_TrimTrace.g
  rw [if_pos h0, if_neg (by omega)]
theorem TrimTrace_ev (t : List S48) (n : Int) (ht : SmallTr t) : Evs (fun k => impl_TrimTrace.f k t n) (TrimR t n) := by
  have hl := ht.1
  unfold impl_TrimTrace.f
  refine Evs.bind (ValidTrace_ev t ht) (fun a ha => Evs.ite (fun h => ?_) (fun h => Evs.ret (.inr ⟨fun q => h (ha.2 q), rfl⟩)))
  refine Evs.bind (P := fun r => t = r) ?_ (fun r hr => ?_)
  · unfold impl_Frame_57.f
    exact Evs.yes (by omega) (Evs.ret rfl)
  · subst hr
    exact Evs.ret (.inl ⟨ha.1 h, rfl⟩)
theorem copyFrames_evT (t : List S48) (ht : (t.length : Int) ≤ 1099511627776) : Evs (fun _ => spec_copyFrames.f t) (fun r => r = t) := by
  unfold spec_copyFrames.f
  refine Evs.const (a := t) ?_ rfl
  simp only [Option.bind_some, List.length_nil, List.nil_append]
  rw [if_pos (by omega)]
theorem sTrimTrace_j0 (t : List S48) (n : Int) (b : Bool) (hv : ValidTr t) (h1 : b = true → impl_TrimTrace.g n t = t) (h2 : b = false → -(t.length : Int) < n ∧ n < t.length) : Evs (fun k => spec_TrimTrace.j0 k t n b) (TrimR t n) := by
  have hl := hv.1
  refine Evs.step (fun k => by rw [spec_TrimTrace.j0]) (Evs.ite (fun h => ?_) (fun h => ?_))
  · exact Evs.bind (copyFrames_evT t (by omega)) (fun r hr => Evs.ret (.inl ⟨hv, by rw [hr, h1 h]⟩))
  · obtain ⟨g1, g2⟩ := h2 (by simpa using h)
    refine Evs.ite (fun hn => ?_) (fun hn => ?_)
    · rw [w64 (x := (t.length : Int) + n) (by omega) (by omega)]
      refine Evs.yes (by omega) (Evs.yes (by omega) (Evs.bind (copyFrames_evT _ (by simp; omega)) (fun r hr => Evs.ret (.inl ⟨hv, ?_⟩))))
      rw [hr]
      unfold impl_TrimTrace.g
      rw [if_neg (by omega), if_pos g1]
    · refine Evs.yes (by omega) (Evs.yes (by omega) (Evs.bind (copyFrames_evT _ (by simp; omega)) (fun r hr => Evs.ret (.inl ⟨hv, ?_⟩))))
      rw [hr, trimG_take t (by omega) (by omega)]
theorem sTrimTrace_ev (t : List S48) (n : Int) (ht : SmallTr t) : Evs (fun k => spec_TrimTrace.f k t n) (TrimR t n) := by
  have hl := ht.1
  unfold spec_TrimTrace.f
  refine Evs.bind (validTrace_ev t ht) (fun a ha => Evs.ite (fun h => ?_) (fun h => Evs.ret (.inr ⟨fun q => h (ha.2 q), rfl⟩)))
  have hv := ha.1 h
  rw [w64 (x := -(t.length : Int)) (by omega) (by omega)]
  refine Evs.ite (fun h1 => sTrimTrace_j0 t n true hv (fun _ => ?_) (fun q => by simp at q)) (fun h1 => Evs.ite (fun h2 => sTrimTrace_j0 t n _ hv (fun _ => ?_) (fun q => ?_)) (fun h2 => sTrimTrace_j0 t n false hv (fun q => by simp at q) (fun _ => by omega)))
  · unfold impl_TrimTrace.g
    rw [if_pos (by omega)]
    split
    · rfl
    · rw [List.take_of_length_le (by omega)]
  · unfold impl_TrimTrace.g
    rw [if_neg (by omega), if_neg (by omega)]
  · have : ¬ n < 0 := by simpa using q
    omega
end Go.Proofs.Ytoahlfggbeijpaa.Pure
