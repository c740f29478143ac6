/- The plain proof: what the printed functions tell. Conditions: none beyond the statement's own. -/
import Derived.Test.YtimogbghkmhhgaaCFnExactHideFuncsPureWExFrame
import Derived.Test.YtimogbghkmhhgaaCFnExactHideFuncsPureWMarks
import Derived.Test.YtimogbghkmhhgaaCFnExactHideFuncsPWx7
import Derived.Test.YtimogbghkmhhgaaCFnExactHideFuncsPWx8
namespace Go.Proofs.Ytimogbghkmhhgaa.Pure
open Go.RowKit Go.Proofs.Ytimogbghkmhhgaa.PW Go.Proofs.YtimogbghkmhhgaaW.PrintWords
set_option linter.unusedVariables false
set_option linter.unusedSimpArgs false
theorem szString_l0 (l : List ByteArray) (hl : (l.length : Int) ≤ 1048576) (hs : ∀ y ∈ l, y.size ≤ maxLen) : ∀ (m : Nat) (i a : Int), ((l.length : Int) - i).toNat = m → 0 ≤ i → i ≤ l.length → 0 ≤ a → a ≤ 1048576 →
    Evs (fun k => laws_szStringS.l0 k l a i) (fun r => -1 ≤ r ∧ r ≤ 1048576)
  | 0, i, a, hm, h0, h1, ha, ha' => Evs.step (fun k => by rw [laws_szStringS.l0]) (Evs.no (by omega) (Evs.ret ⟨by omega, by omega⟩))
  | m + 1, i, a, hm, h0, h1, ha, ha' => by
    have hi : i < (l.length : Int) := by omega
    have hz := hs _ (rdOf_mem (d := ByteArray.empty) h0 hi)
    rw [maxLen_eq] at hz
    refine Evs.step (fun k => by rw [laws_szStringS.l0]) (Evs.yes hi (Evs.yes h0 ?_))
    rw [w64 (x := i + 1) (by omega) (by omega), w64 (x := a - ((rdOf ByteArray.empty l i).size : Int)) (by omega) (by omega)]
    exact Evs.ite (fun h => Evs.ret ⟨by omega, by omega⟩) (fun h => szString_l0 l hl hs m (i + 1) _ (by omega) (by omega) (by omega) (by omega) (by omega))
theorem szString_ev (l : List ByteArray) (a : Int) (hl : l.length ≤ maxLen) (hs : ∀ y ∈ l, y.size ≤ maxLen) (ha : 0 ≤ a) (ha' : a ≤ 1048576) :
    Evs (fun k => laws_szStringS.f k l a) (fun r => -1 ≤ r ∧ r ≤ 1048576 ∧ (0 ≤ r → (l.length : Int) ≤ 1048576)) := by
  rw [maxLen_eq] at hl
  unfold laws_szStringS.f
  rw [w64 (x := a - (l.length : Int)) (by omega) (by omega)]
  refine Evs.ite (fun h => Evs.ret ⟨by omega, by omega, fun q => by omega⟩) (fun h => ?_)
  exact (szString_l0 l (by omega) hs _ 0 _ rfl (by omega) (by omega) (by omega) (by omega)).imp fun r ⟨r1, r2⟩ => ⟨r1, r2, fun _ => by omega⟩
theorem rdB_set (x : List ByteArray) (v : ByteArray) {i j : Int} (hi : 0 ≤ i) (hj : 0 ≤ j) (hj' : j < x.length) : rdOf ByteArray.empty (x.set i.toNat v) j = if j = i then v else rdOf ByteArray.empty x j := by
  unfold rdOf
  rw [getD_nat _ _ _ (by simp; omega), getD_nat _ _ _ (by omega), List.getElem_set]
  by_cases e : j = i
  · subst e; simp
  · rw [if_neg e, if_neg (by omega)]
theorem ext_rdB {x y : List ByteArray} (hl : x.length = y.length) (h : ∀ j : Int, 0 ≤ j → j < x.length → rdOf ByteArray.empty x j = rdOf ByteArray.empty y j) : x = y := by
  refine List.ext_getElem hl fun i h1 h2 => ?_
  have := h i (by omega) (by omega)
  unfold rdOf at this
  rwa [Int.toNat_natCast, getD_nat _ _ _ h1, getD_nat _ _ _ h2] at this
theorem toString_l0 (l : List ByteArray) (hl : (l.length : Int) ≤ 1048576) : ∀ (m : Nat) (i : Int) (x : List ByteArray), ((l.length : Int) - i).toNat = m → 0 ≤ i → i ≤ l.length → x.length = l.length →
    (∀ j : Int, 0 ≤ j → j < i → rdOf ByteArray.empty x j = rdOf ByteArray.empty l j) → Evs (fun k => laws_toStringS.l0 k l x i) (fun r => l = r)
  | 0, i, x, hm, h0, h1, hx, hj => Evs.step (fun k => by rw [laws_toStringS.l0]) (Evs.no (by omega) (Evs.ret (ext_rdB hx (fun j j0 j1 => hj j j0 (by omega))).symm))
  | m + 1, i, x, hm, h0, h1, hx, hj => by
    refine Evs.step (fun k => by rw [laws_toStringS.l0]) (Evs.yes (by omega) (Evs.yes h0 (Evs.yes (by omega) ?_)))
    rw [w64 (x := i + 1) (by omega) (by omega)]
    refine toString_l0 l hl m (i + 1) _ (by omega) (by omega) (by omega) (by simpa using hx) (fun j j0 j1 => ?_)
    rw [rdB_set x _ h0 j0 (by omega)]
    by_cases e : j = i
    · rw [if_pos e, e]
    · rw [if_neg e]; exact hj j j0 (by omega)
theorem toString_ev (l : List ByteArray) (hl : (l.length : Int) ≤ 1048576) : Evs (fun k => laws_toStringS.f k l) (fun r => l = r) := by
  unfold laws_toStringS.f
  exact Evs.yes (by omega) (Evs.yes (by omega) (toString_l0 l hl _ 0 _ rfl (by omega) (by omega) (by simp) (fun j _ _ => by omega)))
theorem eqString_l0 (x : List ByteArray) (hx : (x.length : Int) ≤ 1099511627776) : ∀ (m : Nat) (i : Int), ((x.length : Int) - i).toNat = m → 0 ≤ i → i ≤ x.length → Evs (fun k => laws_eqStringS.l0 k x x i) (fun r => r = true)
  | 0, i, hm, h0, h1 => Evs.step (fun k => by rw [laws_eqStringS.l0]) (Evs.no (by omega) (Evs.ret rfl))
  | m + 1, i, hm, h0, h1 => by
    refine Evs.step (fun k => by rw [laws_eqStringS.l0]) (Evs.yes (by omega) (Evs.yes h0 (Evs.yes (by omega) (Evs.yes rfl ?_))))
    rw [w64 (x := i + 1) (by omega) (by omega)]
    exact eqString_l0 x hx m (i + 1) (by omega) (by omega) (by omega)
theorem eqString_ev (x : List ByteArray) (hx : (x.length : Int) ≤ 1099511627776) : Evs (fun k => laws_eqStringS.f k x x) (fun r => r = true) := by
  unfold laws_eqStringS.f
  exact Evs.yes rfl (eqString_l0 x hx _ 0 rfl (by omega) (by omega))
theorem markString_l0 (n : Nat) (hn : (n : Int) ≤ 1048576) (a : Int) (ha : 0 ≤ a) (ha' : a ≤ 1073741824) : ∀ (m : Nat) (i : Int) (x : List ByteArray), ((n : Int) - i).toNat = m → 0 ≤ i → i ≤ n → x.length = n →
    Evs (fun k => laws_markStringS.l0 k x (a + i) i) (fun r => r.1 = a + n)
  | 0, i, x, hm, h0, h1, hx => Evs.step (fun k => by rw [laws_markStringS.l0]) (Evs.no (by omega) (Evs.ret (by simp only; omega)))
  | m + 1, i, x, hm, h0, h1, hx => by
    obtain ⟨s, hs⟩ := markText_ev (a + i) (by omega)
    refine Evs.step (fun k => by rw [laws_markStringS.l0]) (Evs.yes (by omega) (Evs.bind (P := fun t => t = s) ⟨s, hs, rfl⟩ (fun t ht => Evs.yes h0 ?_)))
    rw [w64 (x := i + 1) (by omega) (by omega), w64 (x := a + i + 1) (by omega) (by omega), show a + i + 1 = a + (i + 1) by omega]
    exact markString_l0 n hn a ha ha' m (i + 1) _ (by omega) (by omega) (by omega) (by simpa using hx)
theorem markString_ev (l : List ByteArray) (a : Int) (hl : (l.length : Int) ≤ 1048576) (ha : 0 ≤ a) (ha' : a ≤ 1073741824) : Evs (fun k => laws_markStringS.f k l a) (fun r => r.1 = a + l.length) := by
  unfold laws_markStringS.f
  have := markString_l0 l.length hl a ha ha' _ 0 l rfl (by omega) (by omega) rfl
  rwa [Int.add_zero] at this
end Go.Proofs.Ytimogbghkmhhgaa.Pure
