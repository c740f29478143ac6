/- The law FnClassNamed of the printed functions: both find the class with a name, and each class of a valid tree is found by its own name. -/
import Derived.Test.YtihglabpnladoaaPureTree
import Derived.Test.YtihglabpnladoaaPTx6
import Derived.Test.YtihglabpnladoaaPTx7
namespace Go.Proofs.Ytihglabpnladoaa.Pure
open Go.RowKit Go.Proofs.Ytihglabpnladoaa.PT Go.Proofs.YtihglabpnladoaaW.PrintWords Go.Proofs.YtihglabpnladoaaW.PrintLast
set_option linter.unusedVariables false

theorem draw_ClassNamed (l : List Int) (h : Bytes l) : Evs (fun k => spec_DrawClassNamed.f k l) (fun r => OkT r.1) := by
  unfold spec_DrawClassNamed.f
  obtain ⟨r, h1, h2, h3⟩ := newReader_ev l h
  refine Evs.bind (Evs.const (P := fun x => x = r) h1 rfl) (fun _ e => ?_)
  subst e
  exact Evs.bind (someTree_ev _ _ h2 (by omega) (by omega)) (fun t ⟨t1, t2, t3⟩ => Evs.bind (of_ev _ _ _ h2 t2 (by omega) (by simp)) (fun _ _ => Evs.ret t1))

/-- What both answer. -/
def Named (t : List S34) (n : ByteArray) (r : Int) : Prop := (ValidT t ∧ First t n r) ∨ (¬ ValidT t ∧ r = -1)
theorem Named.uniq {t : List S34} {n : ByteArray} {r s : Int} (h : Named t n r) (k : Named t n s) : r = s := by
  rcases h with ⟨h1, h2⟩ | ⟨h1, h2⟩ <;> rcases k with ⟨k1, k2⟩ | ⟨k1, k2⟩
  · exact h2.uniq k2
  · exact absurd h1 k1
  · exact absurd k1 h1
  · omega
theorem ClassNamed_ev (t : List S34) (n : ByteArray) (ht : SmallT t) : Evs (fun k => impl_ClassNamed.f k t n) (Named t n) := by
  unfold impl_ClassNamed.f
  refine Evs.bind (ValidTree_ev t ht) (fun a ha => Evs.ite (fun h => ?_) (fun h => Evs.ret (.inr ⟨fun q => h (ha.2 q), rfl⟩)))
  exact Evs.bind (named_ev t n) (fun b hb => Evs.ret (.inl ⟨ha.1 h, hb⟩))
theorem sClassNamed_ev (t : List S34) (n : ByteArray) (ht : SmallT t) : Evs (fun k => spec_ClassNamed.f k t n) (Named t n) := by
  unfold spec_ClassNamed.f
  refine Evs.bind (validTree_ev t ht) (fun a ha => Evs.ite (fun h => ?_) (fun h => Evs.ret (.inr ⟨fun q => h (ha.2 q), rfl⟩)))
  exact Evs.bind (classNamed_ev t n ht.1) (fun b hb => Evs.ret (.inl ⟨ha.1 h, hb⟩))

theorem FnClassNamed_l0 (t : List S34) (n : ByteArray) (r : Int) (ht : OkT t) (hv : ValidT t) (hr : First t n r) : ∀ (m : Nat) (i : Int), ((t.length : Int) - i).toNat = m → 0 ≤ i → i ≤ t.length →
    Evs (fun k => laws_FnClassNamed.l0 k n r i t) (fun b => b = true)
  | 0, i, hm, h0, h1 => by
    refine Evs.step (fun k => by rw [laws_FnClassNamed.l0]) (Evs.no (by omega) (Evs.ite (fun _ => Evs.ret rfl) (fun h => ?_)))
    rcases hr with ⟨q, _⟩ | ⟨q1, q2, q3, _⟩
    · omega
    · exact Evs.yes q1 (Evs.yes q2 (Evs.ret (by simp [q3])))
  | m + 1, i, hm, h0, h1 => by
    have hl := ht.1
    have hi : i < (t.length : Int) := by omega
    refine Evs.step (fun k => by rw [laws_FnClassNamed.l0]) (Evs.yes hi (Evs.yes h0 (Evs.bind (ClassNamed_ev t _ ht.small) (fun a ha => ?_))))
    have e : a = i := ha.uniq (.inl ⟨hv, .inr ⟨h0, hi, rfl, (hv.2 i h0 hi).2.1⟩⟩)
    refine Evs.yes e ?_
    rw [w64 (x := i + 1) (by omega) (by omega)]
    exact FnClassNamed_l0 t n r ht hv hr m (i + 1) (by omega) (by omega) (by omega)

theorem FnClassNamed_j0 (t : List S34) (n : ByteArray) (r : Int) (x : Bool) (ht : OkT t) (hr : Named t n r) (hx : x = false → ValidT t) :
    Evs (fun k => laws_FnClassNamed.j0 k n r x t) (fun b => b = true) := by
  refine Evs.step (fun k => by rw [laws_FnClassNamed.j0]) (Evs.ite (fun h => ?_) (fun h => ?_))
  · exact Evs.bind (sClassNamed_ev t n ht.small) (fun s hs => Evs.ret (by simp [hr.uniq hs]))
  · have hv := hx (by simpa using h)
    rcases hr with ⟨_, hr⟩ | ⟨hr, _⟩
    · exact FnClassNamed_l0 t n r ht hv hr _ 0 rfl (by omega) (by omega)
    · exact absurd hv hr

theorem FnClassNamed : laws_FnClassNamed.Pure := by
  intro l h0 h1 h2
  apply Evs.done
  unfold laws_FnClassNamed.f
  refine Evs.ite (fun _ => Evs.ret rfl) (fun _ => ?_)
  refine Evs.bind (draw_ClassNamed l (bytes_of_wf h2)) (fun t ht => Evs.bind (ClassNamed_ev _ _ ht.small) (fun a ha => Evs.bind (sClassNamed_ev _ _ ht.small) (fun b hb => ?_)))
  refine Evs.ite (fun h => ?_) (fun h => ?_)
  · exact Evs.bind (ValidTree_ev _ ht.small) (fun v hv => FnClassNamed_j0 _ _ _ _ ht ha (fun q => hv.1 (by simpa using q)))
  · exact FnClassNamed_j0 _ _ _ _ ht ha (by simp)

end Go.Proofs.Ytihglabpnladoaa.Pure
