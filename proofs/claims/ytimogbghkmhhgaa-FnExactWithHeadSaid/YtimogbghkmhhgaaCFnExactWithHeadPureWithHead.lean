/- The plain proof: what the printed functions tell. Conditions: none beyond the statement's own. -/
import Derived.Test.YtimogbghkmhhgaaCFnExactWithHeadPureConcat
import Derived.Test.YtimogbghkmhhgaaCFnExactWithHeadPTx13
namespace Go.Proofs.Ytimogbghkmhhgaa.Pure
open Go.RowKit Go.Proofs.Ytimogbghkmhhgaa.PT Go.Proofs.YtimogbghkmhhgaaW.PrintWords
set_option linter.unusedVariables false
set_option linter.unusedSimpArgs false
def WithOk (b : List S34) (n : Int) (c : List S34) : Prop := (ValidTr b ∧ ValidTr c) ∧ (0 ≤ n ∧ n ≤ b.length) ∧ n + c.length ≤ 12
def WithR (b : List S34) (n : Int) (c : List S34) (r : List S34 × Bool) : Prop := (WithOk b n c ∧ r = (b.take n.toNat ++ c, true)) ∨ (¬ WithOk b n c ∧ r = ([], false))
theorem WithR.uniq {b c : List S34} {n : Int} {r s : List S34 × Bool} (h : WithR b n c r) (k : WithR b n c s) : r = s := by
  rcases h with ⟨h1, h2⟩ | ⟨h1, h2⟩ <;> rcases k with ⟨k1, k2⟩ | ⟨k1, k2⟩
  · rw [h2, k2]
  · exact absurd h1 k1
  · exact absurd k1 h1
  · rw [h2, k2]
theorem WithR.len {b c : List S34} {n : Int} {r : List S34 × Bool} (h : WithR b n c r) : (r.1.length : Int) ≤ 12 := by
  rcases h with ⟨h1, h2⟩ | ⟨h1, h2⟩
  · have := h1.2
    rw [h2]; simp; omega
  · rw [h2]; simp
theorem ValidTr.both {b c : List S34} (h : ValidTr b) (k : ValidTr c) (n : Nat) : ValidTr (b.take n ++ c) ↔ ((b.take n ++ c).length : Int) ≤ 12 :=
  ⟨fun q => q.1, fun q => ⟨q, fun x hx => by
    rcases List.mem_append.1 hx with hx | hx
    · exact h.2 x (List.mem_of_mem_take hx)
    · exact k.2 x hx⟩⟩
theorem WithHead_j0 (b : List S34) (n : Int) (c : List S34) (x : Bool) (hb : SmallTr b) (hc : SmallTr c) (h1 : (b.length : Int) ≤ 1048576) (h2 : (c.length : Int) ≤ 1048576) (hx : x = false ↔ ((ValidTr b ∧ ValidTr c) ∧ (0 ≤ n ∧ n ≤ b.length))) :
    Evs (fun k => impl_WithHead.j0 k b n c x) (WithR b n c) := by
  refine Evs.step (fun k => by rw [impl_WithHead.j0]) (Evs.ite (fun h => Evs.ret (.inr ⟨fun q => by have := hx.2 ⟨q.1, q.2.1⟩; rw [this] at h; simp at h, rfl⟩)) (fun h => ?_))
  obtain ⟨hv, h0, hn⟩ := hx.1 (by simpa using h)
  have htl : ((b.take n.toNat).length : Int) = n := by simp; omega
  have hl : ((b.take n.toNat ++ c).length : Int) = n + c.length := by rw [List.length_append]; omega
  refine Evs.yes h0 (Evs.yes hn (Evs.bind (Concat_ev _ c (by omega) (by omega)) (fun d hd => ?_)))
  subst hd
  have sm : SmallTr (b.take n.toNat ++ c) := ⟨by omega, fun x hx => by
    rcases List.mem_append.1 hx with hx | hx
    · exact hb.2 x (List.mem_of_mem_take hx)
    · exact hc.2 x hx⟩
  refine Evs.bind (traceMade_ev _ sm) (fun m hm => Evs.ret ?_)
  rw [MadeR, hv.1.both hv.2] at hm
  rcases hm with ⟨m1, m2⟩ | ⟨m1, m2⟩
  · exact .inl ⟨⟨hv, ⟨h0, hn⟩, by omega⟩, by rw [m2]⟩
  · exact .inr ⟨fun q => m1 (by have := q.2.2; omega), by rw [m2]⟩
theorem WithHead_ev (b : List S34) (n : Int) (c : List S34) (hb : SmallTr b) (hc : SmallTr c) (h1 : (b.length : Int) ≤ 1048576) (h2 : (c.length : Int) ≤ 1048576) : Evs (fun k => impl_WithHead.f k b n c) (WithR b n c) := by
  unfold impl_WithHead.f
  refine Evs.bind (ValidTrace_ev b hb) (fun a ha => Evs.ite (fun h => ?_) (fun h => WithHead_j0 b n c true hb hc h1 h2 ⟨fun q => by simp at q, fun q => absurd (ha.2 q.1.1) h⟩))
  refine Evs.bind (ValidTrace_ev c hc) (fun d hd => Evs.ite (fun h' => ?_) (fun h' => WithHead_j0 b n c true hb hc h1 h2 ⟨fun q => by simp at q, fun q => absurd (hd.2 q.1.2) h'⟩))
  refine Evs.bind (within_ev _ _ _) (fun e he => WithHead_j0 b n c (!e) hb hc h1 h2 ⟨fun q => ⟨⟨ha.1 h, hd.1 h'⟩, he.1 (by simpa using q)⟩, fun q => by simpa using he.2 q.2⟩)
theorem copyFrames_evW (t : List S34) (ht : (t.length : Int) ≤ 1099511627776) : Evs (fun _ => spec_copyFrames.f t) (fun r => r = t) := by
  unfold spec_copyFrames.f
  refine Evs.const (a := t) ?_ rfl
  simp only [Option.bind_some, List.length_nil, List.nil_append]
  rw [if_pos (by omega)]
theorem sWithHead_ev (b : List S34) (n : Int) (c : List S34) (hb : SmallTr b) (hc : SmallTr c) (h1 : (b.length : Int) ≤ 1048576) (h2 : (c.length : Int) ≤ 1048576) : Evs (fun k => spec_WithHead.f k b n c) (WithR b n c) := by
  unfold spec_WithHead.f
  refine Evs.bind (validTrace_ev b hb) (fun a ha => Evs.ite (fun h => ?_) (fun h => Evs.ret (.inr ⟨fun q => h (ha.2 q.1.1), rfl⟩)))
  refine Evs.bind (validTrace_ev c hc) (fun d hd => Evs.ite (fun h' => ?_) (fun h' => Evs.ret (.inr ⟨fun q => h' (hd.2 q.1.2), rfl⟩)))
  refine Evs.bind (inRange_ev _ _ _) (fun e he => Evs.ite (fun h3 => ?_) (fun h3 => Evs.ret (.inr ⟨fun q => h3 (he.2 q.2.1), rfl⟩)))
  have hn := he.1 h3
  rw [w64 (x := n + (c.length : Int)) (by omega) (by omega)]
  refine Evs.ite (fun h4 => Evs.ret (.inr ⟨fun q => by have := q.2.2; omega, rfl⟩)) (fun h4 => Evs.yes hn.1 (Evs.yes hn.2 ?_))
  refine Evs.bind (copyFrames_evW _ (by simp; omega)) (fun r hr => Evs.yes (by rw [hr]; simp; omega) (Evs.ret (.inl ⟨⟨⟨ha.1 h, hd.1 h'⟩, hn, by omega⟩, by rw [hr]⟩)))
end Go.Proofs.Ytimogbghkmhhgaa.Pure
