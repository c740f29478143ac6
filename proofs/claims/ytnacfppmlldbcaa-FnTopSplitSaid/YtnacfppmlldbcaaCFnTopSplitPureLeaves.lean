/- The plain proof: what the printed functions tell. Conditions: none beyond the statement's own. -/
import Derived.Test.YtnacfppmlldbcaaCFnTopSplitPureGroup
import Derived.Test.YtnacfppmlldbcaaCFnTopSplitPTx11
namespace Go.Proofs.Ytnacfppmlldbcaa.Pure
open Go.RowKit Go.Proofs.Ytnacfppmlldbcaa.PT Go.Proofs.YtnacfppmlldbcaaW.PrintWords
set_option linter.unusedVariables false
set_option linter.unusedSimpArgs false
theorem rdSP_at {g : List S41} {i : Int} (h0 : 0 ≤ i) (h : i < (g.length : Int)) : rd_T41 g i = g[i.toNat]'(by omega) := by
  unfold rd_T41; rw [getD_nat _ _ _ (by omega)]
def seg (g : List S41) (s e : Int) : List S41 := (g.take e.toNat).drop s.toNat
def lvs : List S41 → List S35
  | [] => []
  | p :: ps => if p.f1 = true then lvs ps else ⟨p.f2, p.f3⟩ :: lvs ps
theorem lvs_length : ∀ (g : List S41), (lvs g).length ≤ g.length
  | [] => by simp [lvs]
  | p :: ps => by
    have := lvs_length ps
    unfold lvs
    split <;> simp <;> omega
theorem drop_rdSP {t : List S41} {i : Int} (h0 : 0 ≤ i) (h : i < (t.length : Int)) : t.drop i.toNat = rd_T41 t i :: t.drop (i + 1).toNat := by
  rw [rdSP_at h0 h, show (i + 1).toNat = i.toNat + 1 by omega]
  exact List.drop_eq_getElem_cons (by omega)
def LeavesR (t : List S51) (g : List S41) (r : List S35) : Prop := (GroupOk t g ∧ r = lvs g) ∨ (¬ GroupOk t g ∧ r = [])
theorem LeavesR.uniq {t : List S51} {g : List S41} {r s : List S35} (h : LeavesR t g r) (k : LeavesR t g s) : r = s := by
  rcases h with ⟨h1, h2⟩ | ⟨h1, h2⟩ <;> rcases k with ⟨k1, k2⟩ | ⟨k1, k2⟩
  · rw [h2, k2]
  · exact absurd h1 k1
  · exact absurd k1 h1
  · rw [h2, k2]
theorem LeavesR.len {t : List S51} {g : List S41} {r : List S35} (h : LeavesR t g r) : (r.length : Int) ≤ 16 := by
  rcases h with ⟨h1, h2⟩ | ⟨h1, h2⟩
  · have := h1.2.1
    have := lvs_length g
    rw [h2]; omega
  · rw [h2]; simp
theorem iLeaves_l0 (g : List S41) (hg : (g.length : Int) ≤ 16) (m : Nat) : ∀ (i : Int) (acc : List S35), ((g.length : Int) - i).toNat = m → 0 ≤ i → i ≤ g.length → acc.length + m ≤ 100 →
    Evs (fun k => impl_LeavesOf.l0 k acc g g.length i) (fun r => r = acc ++ lvs (g.drop i.toNat)) := by
  induction m with
  | zero =>
    intro i acc hm h0 h1 ha
    exact Evs.step (fun k => by rw [impl_LeavesOf.l0]) (Evs.no (by omega) (Evs.ret (by rw [List.drop_eq_nil_of_le (by omega)]; simp [lvs])))
  | succ m ih =>
    intro i acc hm h0 h1 ha
    have hi : i < (g.length : Int) := by omega
    rw [drop_rdSP h0 hi]
    refine Evs.step (fun k => by rw [impl_LeavesOf.l0]) (Evs.yes hi (Evs.yes h0 (Evs.yes hi ?_)))
    rw [w64 (x := i + 1) (by omega) (by omega)]
    unfold lvs
    refine Evs.ite (fun h => ?_) (fun h => Evs.yes (by omega) ?_)
    · rw [if_pos h]
      exact ih (i + 1) acc (by omega) (by omega) (by omega) (by omega)
    · rw [if_neg h]
      exact (ih (i + 1) _ (by omega) (by omega) (by omega) (by simp; omega)).imp fun r hr => by rw [hr]; simp
theorem LeavesOf_ev (t : List S51) (g : List S41) (ht : SmallT t) (hg : (g.length : Int) ≤ 9223372036854775807) : Evs (fun k => impl_LeavesOf.f k t g) (LeavesR t g) := by
  unfold impl_LeavesOf.f
  refine Evs.bind (ValidGroup_ev t g ht hg) (fun a ha => Evs.ite (fun h => ?_) (fun h => Evs.ret (.inr ⟨fun q => h (ha.2 q), rfl⟩)))
  have hv := ha.1 h
  have hl := hv.2.1
  exact Evs.yes (by omega) (Evs.yes (by omega) ((iLeaves_l0 g (by omega) _ 0 [] rfl (by omega) (by omega) (by simp; omega)).imp fun r hr => .inl ⟨hv, by rw [hr]; simp⟩))
end Go.Proofs.Ytnacfppmlldbcaa.Pure
