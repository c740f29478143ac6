/- The plain proof: what the printed functions tell. Conditions: none beyond the statement's own. -/
import Derived.Test.YtcbbflemaefeeaaCFnLeavesOfPureGroup
import Derived.Test.YtcbbflemaefeeaaCFnLeavesOfPTx13
namespace Go.Proofs.Ytcbbflemaefeeaa.Pure
open Go.RowKit Go.Proofs.Ytcbbflemaefeeaa.PT Go.Proofs.YtcbbflemaefeeaaW.PrintWords
set_option linter.unusedVariables false
set_option linter.unusedSimpArgs false
def gW : Nat → Nat
  | 0 => 1
  | d + 1 => 1 + 3 * gW d
def gC : Nat → Nat
  | 0 => 4
  | d + 1 => 4 + 3 * gC d
theorem goodGroup_l0 (s : List Int) (t : List S70) (a : Int) (B K : Nat) (ha : 0 ≤ a) (ha' : a ≤ 10)
    (sub : ∀ c : Int, 0 ≤ c → c + K ≤ 5000 → Evs (fun k => spec_goodGroup.f k s c t (a + 1)) (fun r => 1 ≤ r.1.length ∧ r.1.length ≤ B ∧ 0 ≤ r.2 ∧ r.2 ≤ c + K)) (hB : B ≤ 100) (hK : K ≤ 400) (m : Nat) :
    ∀ (x8 : Int) (acc : List S46) (c : Int), x8.toNat = m → m ≤ 3 → -10 ≤ x8 → 0 ≤ c → c + ((m * K : Nat) : Int) ≤ 5000 → 1 ≤ acc.length → acc.length + m * B ≤ 1000 →
    Evs (fun k => spec_goodGroup.l0 k a acc x8 s c t) (fun r => 1 ≤ r.1.length ∧ r.1.length ≤ acc.length + m * B ∧ 0 ≤ r.2 ∧ r.2 ≤ c + ((m * K : Nat) : Int)) := by
  induction m with
  | zero =>
    intro x8 acc c hm h3 h6 hc hc' hl hl'
    refine Evs.step (fun k => by rw [spec_goodGroup.l0]) (Evs.no (by omega) (Evs.ret ⟨hl, by simp, hc, by simp⟩))
  | succ m ih =>
    intro x8 acc c hm h3 h6 hc hc' hl hl'
    rw [Nat.succ_mul] at hc' hl' ⊢
    rw [Nat.succ_mul]
    refine Evs.step (fun k => by rw [spec_goodGroup.l0]) (Evs.yes (by omega) ?_)
    rw [w64 (x := a + 1) (by omega) (by omega), w64 (x := x8 - 1) (by omega) (by omega)]
    refine Evs.bind (sub c hc (by omega)) (fun r ⟨r1, r2, r3, r4⟩ => Evs.yes (by omega) ?_)
    refine (ih (x8 - 1) _ r.2 (by omega) (by omega) (by omega) r3 (by omega) (by simp; omega) (by simp; omega)).imp fun q ⟨q1, q2, q3, q4⟩ => ⟨q1, ?_, q3, by omega⟩
    rw [List.length_append] at q2
    omega
theorem goodGroup_ev (s : List Int) (t : List S70) (hs : Bytes s) (d : Nat) : ∀ (a c : Int), (3 - a).toNat = d → d ≤ 3 → 0 ≤ a → a ≤ 3 → 0 ≤ c → c + gC d ≤ 5000 →
    Evs (fun k => spec_goodGroup.f k s c t a) (fun r => 1 ≤ r.1.length ∧ r.1.length ≤ gW d ∧ 0 ≤ r.2 ∧ r.2 ≤ c + gC d) := by
  have leaf : ∀ (a c c0 : Int) (d : Nat), 0 ≤ c → c0 ≤ c → c ≤ c0 + 2 → c0 + gC d ≤ 5000 → Evs (fun k => spec_goodGroup.j0 k a true s c t) (fun r => 1 ≤ r.1.length ∧ r.1.length ≤ gW d ∧ 0 ≤ r.2 ∧ r.2 ≤ c0 + gC d) := fun a c c0 d hc h1 h2 h3 => by
    have w1 : 1 ≤ gW d := by cases d <;> simp only [gW] <;> omega
    have w2 : 4 ≤ gC d := by cases d <;> simp only [gC] <;> omega
    refine Evs.step (fun k => by rw [spec_goodGroup.j0]) (Evs.yes rfl ?_)
    refine Evs.bind (pick_ev s c _ hs hc (by omega)) (fun p ⟨p1, _, _⟩ => Evs.bind (one_ev s p.2 _ hs (by omega) (by omega) (by simp)) (fun q ⟨q1, _⟩ => Evs.ret ⟨by simp, by simpa using w1, by simp only; omega, by simp only; omega⟩))
  induction d with
  | zero =>
    intro a c hd hd3 ha ha' hc hc'
    refine Evs.step (fun k => by rw [spec_goodGroup.f]) (Evs.yes (by omega) (leaf a c c 0 hc (by omega) (by omega) hc'))
  | succ d ih =>
    intro a c hd hd3 ha ha' hc hc'
    have hb : gW d ≤ 13 ∧ gC d ≤ 52 := by
      have : d = 0 ∨ d = 1 ∨ d = 2 := by omega
      rcases this with h | h | h <;> subst h <;> decide
    have eW : gW (d + 1) = 1 + 3 * gW d := rfl
    have eC : gC (d + 1) = 4 + 3 * gC d := rfl
    have node : ∀ (b : Bool) (e : Int), 0 ≤ e → c ≤ e → e ≤ c + 2 → Evs (fun k => spec_goodGroup.j0 k a b s e t) (fun r => 1 ≤ r.1.length ∧ r.1.length ≤ gW (d + 1) ∧ 0 ≤ r.2 ∧ r.2 ≤ c + gC (d + 1)) := fun b e he h1 h2 => by
      cases b with
      | true => exact leaf a e c (d + 1) he h1 h2 hc'
      | false =>
        refine Evs.step (fun k => by rw [spec_goodGroup.j0]) (Evs.no (by simp) ?_)
        refine Evs.bind (one_ev s e _ hs he (by omega) (by simp)) (fun p ⟨p1, _⟩ => Evs.bind (one_ev s p.2 _ hs (by omega) (by omega) (by simp)) (fun q ⟨q1, q2⟩ => ?_))
        simp only [List.mem_cons, List.not_mem_nil, or_false] at q2
        obtain ⟨m, hm, hm3⟩ : ∃ m : Nat, q.1.toNat = m ∧ m ≤ 3 := ⟨_, rfl, by omega⟩
        have hmK : m * gC d ≤ 3 * gC d := Nat.mul_le_mul_right _ hm3
        have hmB : m * gW d ≤ 3 * gW d := Nat.mul_le_mul_right _ hm3
        refine (goodGroup_l0 s t a (gW d) (gC d) ha (by omega) (fun c' h0 h1 => ?_) (by omega) (by omega) m q.1 _ q.2 hm hm3 (by omega) (by omega) (by omega) (by simp) (by simp only [List.length_cons, List.length_nil]; omega)).imp fun r ⟨r1, r2, r3, r4⟩ => ⟨r1, ?_, r3, by omega⟩
        · exact ih (a + 1) c' (by omega) (by omega) (by omega) (by omega) h0 h1
        · simp only [List.length_cons, List.length_nil] at r2
          omega
    refine Evs.step (fun k => by rw [spec_goodGroup.f]) (Evs.no (by omega) (Evs.ite (fun h => ?_) (fun h => ?_)))
    · refine Evs.bind (pick_ev s c 5 hs hc (by omega)) (fun p ⟨p1, _, _⟩ => Evs.ite (fun h' => node true p.2 (by omega) (by omega) (by omega)) (fun h' => ?_))
      exact Evs.bind (pick_ev s p.2 8 hs (by omega) (by omega)) (fun q ⟨q1, _, _⟩ => node _ q.2 (by omega) (by omega) (by omega))
    · exact Evs.bind (pick_ev s c 8 hs hc (by omega)) (fun q ⟨q1, _, _⟩ => node _ q.2 (by omega) (by omega) (by omega))
theorem someGroup_j1 (s : List Int) (t : List S70) (g : List S46) (c : Int) (hs : Bytes s) (ht : OkT t) (hc : 0 ≤ c) (hc' : c ≤ 10000) (h1 : 1 ≤ g.length) (h2 : g.length ≤ 40) :
    Evs (fun k => spec_someGroup.j1 k g s c t) (fun r => OkT r.1 ∧ r.2.1.length ≤ 40) := by
  refine Evs.step (fun k => by rw [spec_someGroup.j1]) (Evs.bind (pick_ev s c (g.length : Int) hs hc (by omega)) (fun a ⟨a1, _, a2⟩ => ?_))
  have a2 := a2 (by omega)
  refine Evs.bind (pick_ev s a.2 24 hs (by omega) (by omega)) (fun b ⟨b1, _, _⟩ => ?_)
  refine Evs.ite (fun _ => ?_) (fun _ => Evs.ite (fun _ => ?_) (fun _ => Evs.ite (fun _ => ?_) (fun _ => Evs.ite (fun _ => ?_) (fun _ => Evs.ret ⟨ht, h2⟩))))
  · exact Evs.bind (one_ev s b.2 _ hs (by omega) (by omega) (by simp)) (fun d _ => Evs.yes a2.1 (Evs.yes a2.2 (Evs.ret ⟨ht, by simpa using h2⟩)))
  · exact Evs.bind (one_ev s b.2 _ hs (by omega) (by omega) (by simp)) (fun d _ => Evs.yes a2.1 (Evs.yes a2.2 (Evs.ret ⟨ht, by simpa using h2⟩)))
  · exact Evs.bind (one_ev s b.2 _ hs (by omega) (by omega) (by simp)) (fun d _ => Evs.yes a2.1 (Evs.yes a2.2 (Evs.ret ⟨ht, by simpa using h2⟩)))
  · exact Evs.yes a2.1 (Evs.yes a2.2 (Evs.ret ⟨ht, by simpa using h2⟩))
theorem someGroup_l0 (s : List Int) (t : List S70) (c : Int) (hs : Bytes s) (ht : OkT t) (hc : 0 ≤ c) (hc' : c ≤ 10000) (n : Nat) (hn1 : 1 ≤ n) (hn2 : n ≤ 40) (m : Nat) : ∀ (i : Int) (g : List S46), ((n : Int) - i).toNat = m → 0 ≤ i → g.length = n →
    Evs (fun k => spec_someGroup.l0 k g i s c t) (fun r => OkT r.1 ∧ r.2.1.length ≤ 40) := by
  induction m with
  | zero =>
    intro i g hm h0 hg
    exact Evs.step (fun k => by rw [spec_someGroup.l0]) (Evs.no (by omega) (someGroup_j1 s t g c hs ht hc hc' (by omega) (by omega)))
  | succ m ih =>
    intro i g hm h0 hg
    refine Evs.step (fun k => by rw [spec_someGroup.l0]) (Evs.yes (by omega) (Evs.yes h0 ?_))
    rw [w64 (x := i + 1) (by omega) (by omega)]
    exact ih (i + 1) _ (by omega) (by omega) (by simpa using hg)
theorem someGroup_ev (s : List Int) (c : Int) (hs : Bytes s) (hc : 0 ≤ c) (hc' : c ≤ 700) : Evs (fun k => spec_someGroup.f k s c) (fun r => OkT r.1 ∧ r.2.1.length ≤ 40) := by
  unfold spec_someGroup.f
  refine Evs.bind (someTree_ev s c hs hc (by omega)) (fun t ⟨t1, t2, t3⟩ => Evs.ite (fun _ => Evs.ret ⟨t1, by simp⟩) (fun _ => ?_))
  refine Evs.bind (goodGroup_ev s t.1 hs 3 0 t.2 rfl (by omega) (by omega) (by omega) t2 (by simp only [gC]; omega)) (fun a ⟨a1, a2, a3, a4⟩ => ?_)
  simp only [gC, gW] at a2 a4
  refine Evs.ite (fun _ => ?_) (fun _ => someGroup_j1 s t.1 a.1 a.2 hs t1 a3 (by omega) a1 (by omega))
  refine Evs.bind (goodGroup_ev s t.1 hs 1 2 a.2 rfl (by omega) (by omega) (by omega) a3 (by simp only [gC]; omega)) (fun b ⟨b1, b2, b3, b4⟩ => ?_)
  simp only [gC, gW] at b2 b4
  exact someGroup_l0 s t.1 b.2 hs t1 b3 (by omega) b.1.length b1 (by omega) _ 0 b.1 rfl (by omega) rfl
end Go.Proofs.Ytcbbflemaefeeaa.Pure
