/- The plain proof: what the printed functions tell. Conditions: none beyond the statement's own. -/
import Derived.Test.YtoahlfggbeijpaaCFnExactLinesOfPureNames
import Derived.Test.YtoahlfggbeijpaaCFnExactLinesOfPTx8
import Derived.Test.YtoahlfggbeijpaaCFnExactLinesOfPTx9
namespace Go.Proofs.Ytoahlfggbeijpaa.Pure
open Go.RowKit Go.Proofs.Ytoahlfggbeijpaa.PT Go.Proofs.YtoahlfggbeijpaaW.PrintWords
set_option linter.unusedVariables false
set_option linter.unusedSimpArgs false
theorem Ev.uniq {α : Type} {g : Nat → Option α} {a b : α} (h : Ev g a) (k : Ev g b) : a = b := by
  obtain ⟨K, h⟩ := h
  obtain ⟨L, k⟩ := k
  have h1 := h (max K L) (by omega)
  have h2 := k (max K L) (by omega)
  rw [h1] at h2
  exact Option.some.inj h2
theorem eqInt_l0 (x : List Int) (hx : (x.length : Int) ≤ 1099511627776) : ∀ (m : Nat) (i : Int), ((x.length : Int) - i).toNat = m → 0 ≤ i → i ≤ x.length → Evs (fun k => laws_eqIntS.l0 k x x i) (fun r => r = true)
  | 0, i, hm, h0, h1 => Evs.step (fun k => by rw [laws_eqIntS.l0]) (Evs.no (by omega) (Evs.ret rfl))
  | m + 1, i, hm, h0, h1 => by
    refine Evs.step (fun k => by rw [laws_eqIntS.l0]) (Evs.yes (by omega) (Evs.yes h0 (Evs.yes (by omega) (Evs.yes rfl ?_))))
    rw [w64 (x := i + 1) (by omega) (by omega)]
    exact eqInt_l0 x hx m (i + 1) (by omega) (by omega) (by omega)
theorem eqInt_ev (x : List Int) (hx : (x.length : Int) ≤ 1099511627776) : Evs (fun k => laws_eqIntS.f k x x) (fun r => r = true) := by
  unfold laws_eqIntS.f
  exact Evs.yes rfl (eqInt_l0 x hx _ 0 rfl (by omega) (by omega))
theorem rd_set (x : List Int) (v : Int) {i j : Int} (hi : 0 ≤ i) (hj : 0 ≤ j) (hj' : j < x.length) : rd (x.set i.toNat v) j = if j = i then v else rd x j := by
  unfold rd
  rw [getD_nat _ _ _ (by simp; omega), getD_nat _ _ _ (by omega), List.getElem_set]
  by_cases e : j = i
  · subst e; simp
  · rw [if_neg e, if_neg (by omega)]
def Marked (l : List Int) (a : Int) : Prop := ∀ j : Int, 0 ≤ j → j < l.length → rd l j = a + j
theorem markInt_l0 (n : Nat) (hn : (n : Int) ≤ 1099511627776) (a : Int) (ha : 0 ≤ a) (ha' : a ≤ 1099511627776) : ∀ (m : Nat) (i : Int) (x : List Int), ((n : Int) - i).toNat = m → 0 ≤ i → i ≤ n → x.length = n →
    (∀ j : Int, 0 ≤ j → j < i → rd x j = a + j) → Evs (fun k => laws_markIntS.l0 k x (a + i) i) (fun r => r.1 = a + n ∧ r.2.length = n ∧ Marked r.2 a)
  | 0, i, x, hm, h0, h1, hx, hj => Evs.step (fun k => by rw [laws_markIntS.l0]) (Evs.no (by omega) (Evs.ret ⟨by simp only; omega, hx, fun j j0 j1 => hj j j0 (by simp only at j1; omega)⟩))
  | m + 1, i, x, hm, h0, h1, hx, hj => by
    refine Evs.step (fun k => by rw [laws_markIntS.l0]) (Evs.yes (by omega) (Evs.yes h0 ?_))
    rw [w64 (x := i + 1) (by omega) (by omega), w64 (x := a + i + 1) (by omega) (by omega), show a + i + 1 = a + (i + 1) by omega]
    refine markInt_l0 n hn a ha ha' m (i + 1) _ (by omega) (by omega) (by omega) (by simpa using hx) (fun j j0 j1 => ?_)
    rw [rd_set x _ h0 j0 (by omega)]
    by_cases e : j = i
    · rw [if_pos e, e]
    · rw [if_neg e]; exact hj j j0 (by omega)
theorem markInt_ev (l : List Int) (a : Int) (hl : (l.length : Int) ≤ 1099511627776) (ha : 0 ≤ a) (ha' : a ≤ 1099511627776) : Evs (fun k => laws_markIntS.f k l a) (fun r => r.1 = a + l.length ∧ r.2.length = l.length ∧ Marked r.2 a) := by
  unfold laws_markIntS.f
  have := markInt_l0 l.length hl a ha ha' _ 0 l rfl (by omega) (by omega) rfl (fun j _ _ => by omega)
  rwa [Int.add_zero] at this
theorem heldInt_l0 (l : List Int) (a : Int) (hl : (l.length : Int) ≤ 1099511627776) (ha : 0 ≤ a) (ha' : a ≤ 1099511627776) (h : Marked l a) : ∀ (m : Nat) (i : Int), ((l.length : Int) - i).toNat = m → 0 ≤ i → i ≤ l.length →
    Evs (fun k => laws_heldIntS.l0 k l (a + i) i) (fun r => r = a + l.length)
  | 0, i, hm, h0, h1 => Evs.step (fun k => by rw [laws_heldIntS.l0]) (Evs.no (by omega) (Evs.ret (by omega)))
  | m + 1, i, hm, h0, h1 => by
    refine Evs.step (fun k => by rw [laws_heldIntS.l0]) (Evs.yes (by omega) (Evs.yes h0 (Evs.yes (h i h0 (by omega)) ?_)))
    rw [w64 (x := i + 1) (by omega) (by omega), w64 (x := a + i + 1) (by omega) (by omega), show a + i + 1 = a + (i + 1) by omega]
    exact heldInt_l0 l a hl ha ha' h m (i + 1) (by omega) (by omega) (by omega)
theorem heldInt_ev (l : List Int) (a : Int) (hl : (l.length : Int) ≤ 1099511627776) (ha : 0 ≤ a) (ha' : a ≤ 1099511627776) (h : Marked l a) : Evs (fun k => laws_heldIntS.f k l a) (fun r => r = a + l.length) := by
  unfold laws_heldIntS.f
  have := heldInt_l0 l a hl ha ha' h _ 0 rfl (by omega) (by omega)
  rwa [Int.add_zero] at this
theorem strOfNums_one (x : Int) : (strOfNums [x]).size = 1 := by
  simp [strOfNums, ByteArray.size]
theorem markText_l0 (m : Nat) : ∀ (a : Int) (s : ByteArray), a.toNat ≤ m → 0 ≤ a → a ≤ 1099511627777 → (s.size : Int) + m ≤ 1099511627778 → Evs (fun k => laws_markText.l0 k a s) (fun _ => True) := by
  induction m with
  | zero =>
    intro a s hm h0 h1 hs
    exact Evs.step (fun k => by rw [laws_markText.l0]) (Evs.no (by omega) (Evs.yes (by omega) (Evs.ret trivial)))
  | succ m ih =>
    intro a s hm h0 h1 hs
    refine Evs.step (fun k => by rw [laws_markText.l0]) (Evs.ite (fun h => ?_) (fun h => Evs.yes (by omega) (Evs.ret trivial)))
    refine Evs.bind (P := fun y => (strOfNums y).size = 1) (Evs.ret (strOfNums_one _)) (fun y e => ?_)
    have d0 : 0 ≤ Int.tdiv a 10 := Int.tdiv_nonneg h0 (by omega)
    have d1 : Int.tdiv a 10 < a := by rw [Int.tdiv_eq_ediv_of_nonneg h0]; omega
    refine Evs.yes (by omega) ?_
    rw [w64 (x := Int.tdiv a 10) (by omega) (by omega)]
    refine ih _ _ (by omega) d0 (by omega) ?_
    rw [ByteArray.size_append, e]
    omega
theorem markText_ev (a : Int) (h1 : a ≤ 1099511627777) : ∃ s, Ev (fun k => laws_markText.f k a) s := by
  have : Evs (fun k => laws_markText.f k a) (fun _ => True) := by
    unfold laws_markText.f
    refine Evs.ite (fun _ => Evs.ret trivial) (fun h => markText_l0 a.toNat a _ (Nat.le_refl _) (by omega) h1 ?_)
    have e : (⟨#[]⟩ : ByteArray).size = 0 := rfl
    rw [e]
    omega
  obtain ⟨s, h, _⟩ := this
  exact ⟨s, h⟩
end Go.Proofs.Ytoahlfggbeijpaa.Pure
