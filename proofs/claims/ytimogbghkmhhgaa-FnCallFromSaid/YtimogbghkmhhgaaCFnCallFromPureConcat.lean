/- The plain proof: what the printed functions tell. Conditions: none beyond the statement's own. -/
import Derived.Test.YtimogbghkmhhgaaCFnCallFromPureTrace
import Derived.Test.YtimogbghkmhhgaaCFnCallFromPTx7
import Derived.Test.YtimogbghkmhhgaaCFnCallFromPTx5
namespace Go.Proofs.Ytimogbghkmhhgaa.Pure
open Go.RowKit Go.Proofs.Ytimogbghkmhhgaa.PT Go.Proofs.YtimogbghkmhhgaaW.PrintWords
set_option linter.unusedVariables false
set_option linter.unusedSimpArgs false
theorem Concat_ev (a b : List S34) (ha : (a.length : Int) ≤ 2000000) (hb : (b.length : Int) ≤ 2000000) : Evs (fun k => impl_Frame_68.f k [a, b]) (fun r => r = a ++ b) := by
  unfold impl_Frame_68.f
  have e0 : rd_L5 [a, b] 0 = a := rfl
  have e1 : rd_L5 [a, b] 1 = b := rfl
  have hl : (([a, b] : List (List S34)).length : Int) = 2 := rfl
  rw [hl]
  refine Evs.step (fun k => by rw [impl_Frame_68.l0]) (Evs.yes (by omega) (Evs.yes (by omega) (Evs.yes (by rw [hl]; omega) ?_)))
  rw [e0, w64 (x := 0 + (a.length : Int)) (by omega) (by omega), w64 (x := 0 + 1) (by omega) (by omega), show (0 : Int) + 1 = 1 from rfl]
  refine Evs.no (by omega) (Evs.step (fun k => by rw [impl_Frame_68.l0]) (Evs.yes (by omega) (Evs.yes (by omega) (Evs.yes (by rw [hl]; omega) ?_))))
  rw [e1, w64 (x := 0 + (a.length : Int) + (b.length : Int)) (by omega) (by omega), w64 (x := 1 + 1) (by omega) (by omega), show (1 : Int) + 1 = 2 from rfl]
  refine Evs.no (by omega) (Evs.step (fun k => by rw [impl_Frame_68.l0]) (Evs.no (by omega) (Evs.bind (P := fun r => ([] : List S34) = r) ?_ (fun r hr => ?_))))
  · unfold impl_Frame_88.f
    exact Evs.yes (by omega) (Evs.yes (by omega) (Evs.ret rfl))
  · subst hr
    rw [hl]
    refine Evs.step (fun k => by rw [impl_Frame_68.l1]) (Evs.yes (by omega) (Evs.yes (by omega) (Evs.yes (by rw [hl]; omega) ?_)))
    rw [e0, w64 (x := 0 + 1) (by omega) (by omega), show (0 : Int) + 1 = 1 from rfl]
    refine Evs.yes (by simp; omega) (Evs.step (fun k => by rw [impl_Frame_68.l1]) (Evs.yes (by omega) (Evs.yes (by omega) (Evs.yes (by rw [hl]; omega) ?_))))
    rw [e1, w64 (x := 1 + 1) (by omega) (by omega), show (1 : Int) + 1 = 2 from rfl]
    exact Evs.yes (by simp; omega) (Evs.step (fun k => by rw [impl_Frame_68.l1]) (Evs.no (by omega) (Evs.ret (by simp))))
def MadeR (t : List S34) (r : List S34 × Bool) : Prop := (ValidTr t ∧ r = (t, true)) ∨ (¬ ValidTr t ∧ r = ([], false))
theorem traceMade_ev (t : List S34) (ht : SmallTr t) : Evs (fun k => impl_traceMade.f k t) (MadeR t) := by
  have hl := ht.1
  unfold impl_traceMade.f
  refine Evs.bind (ValidTrace_ev t ht) (fun a ha => Evs.ite (fun h => ?_) (fun h => Evs.ret (.inr ⟨fun q => h (ha.2 q), rfl⟩)))
  refine Evs.bind (P := fun r => t = r) ?_ (fun r hr => ?_)
  · unfold impl_Frame_69.f
    exact Evs.yes (by omega) (Evs.ret rfl)
  · subst hr
    refine Evs.bind (P := fun r => t = r) ?_ (fun r hr => ?_)
    · unfold impl_Frame_70.f
      exact Evs.ret rfl
    · subst hr
      exact Evs.ret (.inl ⟨ha.1 h, rfl⟩)
end Go.Proofs.Ytimogbghkmhhgaa.Pure
