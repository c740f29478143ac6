/- The plain proof: what the printed functions tell. Conditions: none beyond the statement's own. -/
import Derived.Test.YtimogbghkmhhgaaCFnWithHeadPureWithHead
import Derived.Test.YtimogbghkmhhgaaCFnWithHeadPureCommon
import Derived.Test.YtimogbghkmhhgaaCFnWithHeadPTx16
import Derived.Test.YtimogbghkmhhgaaCFnWithHeadPTx17
namespace Go.Proofs.Ytimogbghkmhhgaa.Pure
open Go.RowKit Go.Proofs.Ytimogbghkmhhgaa.PT Go.Proofs.YtimogbghkmhhgaaW.PrintWords Go.Proofs.YtimogbghkmhhgaaW.PrintLast
set_option linter.unusedVariables false
set_option linter.unusedSimpArgs false
theorem draw_WithHead (l : List Int) (h : Bytes l) : Evs (fun k => spec_DrawWithHead.f k l) (fun r => OkTr r.1 ∧ OkTr r.2.2) := by
  unfold spec_DrawWithHead.f
  obtain ⟨r, h1, h2, h3⟩ := newReader_ev l h
  refine Evs.bind (Evs.const (P := fun x => x = r) h1 rfl) (fun _ e => ?_)
  subst e
  refine Evs.bind (twoTraces_ev _ _ h2 (by omega) (by omega)) (fun t ⟨t1, t2, t3, t4⟩ => Evs.bind (shead_ev _ _ (by have := t1.1; omega)) (fun n _ => Evs.bind (one_ev _ _ _ h2 (by omega) (by omega) (by simp)) (fun d ⟨d1, _⟩ => Evs.bind (goodTrace_ev _ _ h2 (by omega) (by omega)) (fun g hg => Evs.ret ⟨t2, hg.1⟩))))
theorem rd_both {b c : List S34} {n j : Int} (h0 : 0 ≤ j) (h : j < n) (hn : n ≤ b.length) : rd_T34 (b.take n.toNat ++ c) j = rd_T34 b j := by
  unfold rd_T34
  rw [getD_nat _ _ _ (by simp; omega), getD_nat _ _ _ (by omega), List.getElem_append_left (by simp; omega)]
  simp
theorem FnWithHead_j0 (b : List S34) (n : Int) (c : List S34) (r s : List S34 × Bool) (x : Bool) (hb : OkTr b) (hc : OkTr c) (hr : WithR b n c r) (hs : WithR b n c s) (hx : x = false → r.2 = true) :
    Evs (fun k => laws_FnWithHead.j0 k b n c r.1 r.2 s.1 s.2 x) (fun y => y = true) := by
  have e := hr.uniq hs
  subst e
  have hl := hr.len
  refine Evs.step (fun k => by rw [laws_FnWithHead.j0]) (Evs.ite (fun h => ?_) (fun h => ?_))
  · exact Evs.bind (equalTrace_ev r.1 r.1 (by omega)) (fun c hc => Evs.yes (hc.2 rfl) (Evs.ret (by simp)))
  · have h0 := hx (by simpa using h)
    rcases hr with ⟨hg, hr⟩ | ⟨_, hr⟩
    case inr => rw [hr] at h0; simp at h0
    have e1 : r.1 = b.take n.toNat ++ c := by rw [hr]
    obtain ⟨hv, hn, h12⟩ := hg
    have htl : ((b.take n.toNat).length : Int) = n := by simp; omega
    have hbl := hb.1
    have hll : ((b.take n.toNat ++ c).length : Int) = n + c.length := by rw [List.length_append]; omega
    have hvo : ValidTr (b.take n.toNat ++ c) := (hv.1.both hv.2 _).2 (by omega)
    have smo : SmallTr (b.take n.toNat ++ c) := ⟨by omega, fun x hx => by
      rcases List.mem_append.1 hx with hx | hx
      · exact hb.small.2 x (List.mem_of_mem_take hx)
      · exact hc.small.2 x hx⟩
    rw [e1]
    have e2 : (b.take n.toNat ++ c).take n.toNat = b.take n.toNat := by rw [List.take_append_of_le_length (by omega), List.take_take, Nat.min_self]
    have e3 : (b.take n.toNat ++ c).drop n.toNat = c := by
      rw [List.drop_append_of_le_length (by omega), List.drop_eq_nil_of_le (by omega), List.nil_append]
    rw [e2, e3]
    refine Evs.yes hn.1 (Evs.yes (by omega) (Evs.yes hn.2 (Evs.bind (equalTrace_ev _ _ (by omega)) (fun u hu => Evs.yes (hu.2 rfl) (Evs.bind (equalTrace_ev c c (by omega)) (fun v hv' => Evs.yes (hv'.2 rfl) ?_))))))
    refine Evs.bind (CommonHead_ev _ b smo hb.small) (fun q hq => Evs.ret (decide_eq_true ?_))
    rcases hq with ⟨_, hq⟩ | ⟨z, _⟩
    case inr => exact absurd ⟨hvo, hv.1⟩ z
    refine Classical.byContradiction fun hlt => ?_
    have q1 := hq.1
    exact hq.2.2 (by omega) (by omega) (rd_both q1.1 (by omega) hn.2)
theorem FnWithHead : laws_FnWithHead.Pure := by
  intro l h0 h1 h2
  apply Evs.done
  unfold laws_FnWithHead.f
  refine Evs.ite (fun _ => Evs.ret rfl) (fun _ => ?_)
  refine Evs.bind (draw_WithHead l (bytes_of_wf h2)) (fun d ⟨d1, d2⟩ => ?_)
  have hd := d1.1
  have hd' := d2.1
  refine Evs.bind (WithHead_ev _ _ _ d1.small d2.small (by omega) (by omega)) (fun a ha => Evs.bind (sWithHead_ev _ _ _ d1.small d2.small (by omega) (by omega)) (fun b hb => ?_))
  have hl := ha.len
  refine Evs.bind (equalTrace_ev _ _ (by omega)) (fun c hc => Evs.ite (fun h => Evs.ite (fun h' => ?_) (fun h' => ?_)) (fun h => ?_))
  · exact FnWithHead_j0 _ _ _ a b _ d1 d2 ha hb (by simp)
  · exact FnWithHead_j0 _ _ _ a b _ d1 d2 ha hb (fun q => by simpa using q)
  · exact FnWithHead_j0 _ _ _ a b _ d1 d2 ha hb (by simp)
end Go.Proofs.Ytimogbghkmhhgaa.Pure
