/- The plain proof: what the printed functions tell. Conditions: none beyond the statement's own. -/
import Derived.Test.YtcbbflemaefeeaaCFnLeavesOfPureGroup
import Derived.Test.YtcbbflemaefeeaaCFnLeavesOfPTx14
import Derived.Test.YtcbbflemaefeeaaCFnLeavesOfPTx13
import Derived.Test.YtcbbflemaefeeaaCFnLeavesOfPTx18
import Derived.Test.YtcbbflemaefeeaaCFnLeavesOfPTx0
import Derived.Test.YtcbbflemaefeeaaCFnLeavesOfPTx5
import Derived.Test.YtcbbflemaefeeaaCFnLeavesOfPTx8
import Derived.Test.YtcbbflemaefeeaaCFnLeavesOfPTx10
import Derived.Test.YtcbbflemaefeeaaCFnLeavesOfPTx16
namespace Go.Proofs.Ytcbbflemaefeeaa.Pure
open Go.RowKit Go.Proofs.Ytcbbflemaefeeaa.PT Go.Proofs.YtcbbflemaefeeaaW.PrintWords
set_option linter.unusedVariables false
set_option linter.unusedSimpArgs false
theorem rdSP_at {g : List S46} {i : Int} (h0 : 0 ≤ i) (h : i < (g.length : Int)) : rd_T46 g i = g[i.toNat]'(by omega) := by
  unfold rd_T46; rw [getD_nat _ _ _ (by omega)]
def seg (g : List S46) (s e : Int) : List S46 := (g.take e.toNat).drop s.toNat
theorem seg_length (g : List S46) {s e : Int} (h0 : 0 ≤ s) (h1 : s ≤ e) (h2 : e ≤ g.length) : ((seg g s e).length : Int) = e - s := by
  unfold seg; rw [List.length_drop, List.length_take]; omega
theorem seg_rd (g : List S46) {s e j : Int} (h0 : 0 ≤ s) (h1 : s ≤ e) (h2 : e ≤ g.length) (j0 : 0 ≤ j) (j1 : j < e - s) : rd_T46 (seg g s e) j = rd_T46 g (s + j) := by
  rw [rdSP_at j0 (by rw [seg_length g h0 h1 h2]; exact j1), rdSP_at (by omega) (by omega)]
  unfold seg
  rw [List.getElem_drop, List.getElem_take]
  congr 1
  omega
def deep (l : List S46) : List S46 := l.map (fun p => ⟨p.f0 - 1, p.f1, p.f2, p.f3⟩)
theorem deep_length (l : List S46) : (deep l).length = l.length := by simp [deep]
theorem deep_rd (l : List S46) {j : Int} (j0 : 0 ≤ j) (j1 : j < l.length) : rd_T46 (deep l) j = ⟨(rd_T46 l j).f0 - 1, (rd_T46 l j).f1, (rd_T46 l j).f2, (rd_T46 l j).f3⟩ := by
  rw [rdSP_at j0 (by rw [deep_length]; exact j1), rdSP_at j0 j1]
  simp [deep]
theorem deeper_l0 (l : List S46) (hl : (l.length : Int) ≤ 100) (hb : ∀ j : Int, 0 ≤ j → j < l.length → 0 ≤ (rd_T46 l j).f0 ∧ (rd_T46 l j).f0 ≤ 5) (m : Nat) : ∀ (i : Int) (acc : List S46), ((l.length : Int) - i).toNat = m → 0 ≤ i → i ≤ l.length → acc.length = i.toNat →
    Evs (fun k => impl_deeper.l0 k (-1) acc l l.length i) (fun r => r = acc ++ deep (l.drop i.toNat)) := by
  induction m with
  | zero =>
    intro i acc hm h0 h1 ha
    exact Evs.step (fun k => by rw [impl_deeper.l0]) (Evs.no (by omega) (Evs.ret (by rw [List.drop_eq_nil_of_le (by omega)]; simp [deep])))
  | succ m ih =>
    intro i acc hm h0 h1 ha
    have hi : i < (l.length : Int) := by omega
    have hd := hb i h0 hi
    refine Evs.step (fun k => by rw [impl_deeper.l0]) (Evs.yes hi (Evs.yes h0 (Evs.yes hi (Evs.yes (by omega) ?_))))
    rw [w64 (x := i + 1) (by omega) (by omega), w64 (x := (rd_T46 l i).f0 + -1) (by omega) (by omega)]
    refine (ih (i + 1) _ (by omega) (by omega) (by omega) (by simp; omega)).imp fun r hr => ?_
    rw [hr, List.append_assoc]
    congr 1
    rw [show l.drop i.toNat = rd_T46 l i :: l.drop (i + 1).toNat by rw [rdSP_at h0 hi, show (i + 1).toNat = i.toNat + 1 by omega]; exact List.drop_eq_getElem_cons (by omega)]
    simp [deep, Int.sub_eq_add_neg]
theorem deeper_ev (l : List S46) (hl : (l.length : Int) ≤ 100) (hb : ∀ j : Int, 0 ≤ j → j < l.length → 0 ≤ (rd_T46 l j).f0 ∧ (rd_T46 l j).f0 ≤ 5) : Evs (fun k => impl_deeper.f k l (-1)) (fun r => r = deep l) := by
  unfold impl_deeper.f
  refine Evs.yes (by omega) (Evs.yes (by omega) ((deeper_l0 l hl hb _ 0 [] rfl (by omega) (by omega) rfl).imp fun r hr => ?_))
  rw [hr]; simp
def KidsFrom (g : List S46) : Int → List (List S46) → Prop
  | i, [] => i = g.length
  | i, x :: xs => ∃ e, (0 ≤ i ∧ i < g.length) ∧ EndR g i e ∧ x = deep (seg g i e) ∧ KidsFrom g e xs
theorem kids_l0 (g : List S46) (hg : (g.length : Int) ≤ 16) (hb : ∀ j : Int, 0 ≤ j → j < g.length → 0 ≤ (rd_T46 g j).f0 ∧ (rd_T46 g j).f0 ≤ 5) (n : Nat) : ∀ (i : Int) (acc : List (List S46)), ((g.length : Int) - i).toNat ≤ n → 0 ≤ i → i ≤ g.length → acc.length + n ≤ 100 →
    Evs (fun k => impl_kids.l0 k g acc i) (fun r => ∃ ks, r = acc ++ ks ∧ KidsFrom g i ks) := by
  induction n with
  | zero =>
    intro i acc hn h0 h1 ha
    exact Evs.step (fun k => by rw [impl_kids.l0]) (Evs.no (by omega) (Evs.ret ⟨[], by simp, by simp only [KidsFrom]; omega⟩))
  | succ n ih =>
    intro i acc hn h0 h1 ha
    refine Evs.step (fun k => by rw [impl_kids.l0]) (Evs.ite (fun hi => ?_) (fun hi => Evs.ret ⟨[], by simp, by simp only [KidsFrom]; omega⟩))
    refine Evs.bind (iend_ev g i h0 hi (by omega)) (fun e he => ?_)
    have h2 := he.1
    have hsl := seg_length g h0 (show i ≤ e by omega) h2.2
    refine Evs.yes h0 (Evs.yes (by omega) (Evs.yes h2.2 (Evs.bind (P := fun r => r = deep (seg g i e)) ?_ (fun d hd => Evs.yes (by omega) (Evs.bind (iend_ev g i h0 hi (by omega)) (fun e' he' => ?_))))))
    · refine deeper_ev (seg g i e) (by omega) (fun j j0 j1 => ?_)
      rw [seg_rd g h0 (by omega) h2.2 j0 (by omega)]
      exact hb _ (by omega) (by omega)
    · have ee := he'.uniq he
      subst ee
      refine (ih e' _ (by omega) (by omega) h2.2 (by simp; omega)).imp fun r ⟨ks, r1, r2⟩ => ⟨d :: ks, by rw [r1]; simp, e', ⟨h0, hi⟩, he, hd, r2⟩
theorem GroupOk.bound {t : List S70} {g : List S46} (h : GroupOk t g) : ∀ j : Int, 0 ≤ j → j < g.length → 0 ≤ (rd_T46 g j).f0 ∧ (rd_T46 g j).f0 ≤ 5 := fun j j0 j1 => (h.2.2 j j0 j1).1.2.1
theorem KidsOf_ev (t : List S70) (g : List S46) (ht : SmallT t) (h : GroupOk t g) : Evs (fun k => impl_KidsOf.f k t g) (fun r => KidsFrom g 1 r) := by
  have hl := h.2.1
  unfold impl_KidsOf.f
  refine Evs.bind (ValidGroup_ev t g ht (by omega)) (fun a ha => Evs.yes (ha.2 h) (Evs.bind (P := fun r => KidsFrom g 1 r) ?_ (fun r hr => Evs.ret hr)))
  unfold impl_kids.f
  exact (kids_l0 g (by omega) h.bound 16 1 [] (by omega) (by omega) (by omega) (by simp)).imp fun r ⟨ks, r1, r2⟩ => by rw [r1]; simpa using r2
theorem GroupOk.one {t : List S70} {g : List S46} (h : GroupOk t g) (h1 : 1 < (g.length : Int)) : (rd_T46 g 0).f1 = true ∧ (rd_T46 g 1).f0 = 1 := by
  have a := (h.2.2 1 (by omega) h1).1.2
  have z := (h.2.2 0 (by omega) (by omega)).1.2
  have b := (h.2.2 1 (by omega) h1).2.1 (by omega)
  rw [show (1 : Int) - 1 = 0 by omega] at b
  have z0 : (rd_T46 g 0).f0 = 0 := z.2.2 rfl
  have a1 : (rd_T46 g 1).f0 ≠ 0 := fun q => by have := a.2.1 q; omega
  rcases b with b | ⟨b, c⟩
  · omega
  · exact ⟨b, by omega⟩
theorem GroupOk.next {t : List S70} {g : List S46} (h : GroupOk t g) {i e : Int} (h0 : 1 ≤ i) (hi : i < g.length) (hd : (rd_T46 g i).f0 = 1) (he : EndR g i e) (hlt : e < g.length) : (rd_T46 g e).f0 = 1 := by
  have h1 := he.1
  have h2 := he.2.2 hlt
  have a := (h.2.2 e (by omega) hlt).1.2
  have : (rd_T46 g e).f0 ≠ 0 := fun q => by have := a.2.1 q; omega
  omega
theorem GroupOk.kid {t : List S70} {g : List S46} (h : GroupOk t g) {i e : Int} (h0 : 1 ≤ i) (hi : i < g.length) (hd : (rd_T46 g i).f0 = 1) (he : EndR g i e) : GroupOk t (deep (seg g i e)) := by
  have h1 := he.1
  have hl := h.2.1
  have hsl := seg_length g (show 0 ≤ i by omega) (show i ≤ e by omega) h1.2
  have hdl : ((deep (seg g i e)).length : Int) = e - i := by rw [deep_length]; exact hsl
  have rd : ∀ j : Int, 0 ≤ j → j < e - i → rd_T46 (deep (seg g i e)) j = ⟨(rd_T46 g (i + j)).f0 - 1, (rd_T46 g (i + j)).f1, (rd_T46 g (i + j)).f2, (rd_T46 g (i + j)).f3⟩ := fun j j0 j1 => by
    rw [deep_rd _ j0 (by omega), seg_rd g (by omega) (by omega) h1.2 j0 j1]
  refine ⟨h.1, by omega, fun j j0 j1 => ?_⟩
  rw [hdl] at j1
  obtain ⟨⟨a1, a2, a3⟩, b, c1, c2⟩ := h.2.2 (i + j) (by omega) (by omega)
  have hdj : 0 < j → (rd_T46 g i).f0 < (rd_T46 g (i + j)).f0 := fun q => he.2.1 (i + j) (by omega) (by omega)
  refine ⟨⟨?_, ?_, ?_⟩, ?_, ?_, ?_⟩
  · rw [rd j j0 j1]; exact a1
  · rw [rd j j0 j1]
    simp only
    by_cases q : j = 0
    · subst q; rw [Int.add_zero] at a2 ⊢; omega
    · have := hdj (by omega); omega
  · rw [rd j j0 j1]
    simp only
    constructor
    · intro q
      refine Classical.byContradiction fun z => ?_
      have := hdj (by omega)
      omega
    · intro q
      subst q
      rw [Int.add_zero]
      omega
  · intro q
    rw [rd j j0 j1, rd (j - 1) (by omega) (by omega)]
    have := b (by omega)
    rw [show i + j - 1 = i + (j - 1) by omega] at this
    simp only
    rcases this with z | ⟨z, y⟩
    · exact .inl (by omega)
    · exact .inr ⟨z, by omega⟩
  · intro q
    rw [rd j j0 j1] at q
    obtain ⟨z1, z2, z3⟩ := c1 q
    have hin : j + 1 < e - i := by
      refine Classical.byContradiction fun z => ?_
      have ej : i + j + 1 = e := by omega
      have := he.2.2 (by omega)
      rw [ej] at z3
      by_cases q0 : j = 0
      · subst q0; rw [Int.add_zero] at z3; omega
      · have := hdj (by omega); omega
    rw [rd j j0 j1, rd (j + 1) (by omega) hin, hdl]
    simp only
    rw [show i + (j + 1) = i + j + 1 by omega]
    exact ⟨z1, hin, by omega⟩
  · intro q
    rw [rd j j0 j1] at q ⊢
    exact c2 q
theorem KidsFrom.all {t : List S70} {g : List S46} (h : GroupOk t g) : ∀ {i : Int} {ks : List (List S46)}, 1 ≤ i → (i < g.length → (rd_T46 g i).f0 = 1) → KidsFrom g i ks → (∀ x ∈ ks, GroupOk t x) ∧ ks.length ≤ ((g.length : Int) - i).toNat
  | i, [], h0, hd, hk => ⟨by simp, by simp⟩
  | i, x :: xs, h0, hd, ⟨e, hi, he, hx, hk⟩ => by
    have h1 := he.1
    have hd := hd hi.2
    obtain ⟨k1, k2⟩ := KidsFrom.all h (i := e) (by omega) (fun q => h.next h0 hi.2 hd he q) hk
    refine ⟨fun y hy => ?_, by simp; omega⟩
    rcases List.mem_cons.1 hy with rfl | hy
    · rw [hx]; exact h.kid h0 hi.2 hd he
    · exact k1 y hy
def lvs : List S46 → List S62
  | [] => []
  | p :: ps => if p.f1 = true then lvs ps else ⟨p.f2, p.f3⟩ :: lvs ps
theorem lvs_append (a b : List S46) : lvs (a ++ b) = lvs a ++ lvs b := by
  induction a with
  | nil => simp [lvs]
  | cons p ps ih =>
    simp only [List.cons_append, lvs]
    split <;> simp [ih]
theorem lvs_deep (a : List S46) : lvs (deep a) = lvs a := by
  induction a with
  | nil => simp [lvs, deep]
  | cons p ps ih =>
    show lvs (_ :: deep ps) = _
    simp only [lvs]
    rw [ih]
theorem lvs_length : ∀ (g : List S46), (lvs g).length ≤ g.length
  | [] => by simp [lvs]
  | p :: ps => by
    have := lvs_length ps
    unfold lvs
    split <;> simp <;> omega
theorem drop_rdSP {t : List S46} {i : Int} (h0 : 0 ≤ i) (h : i < (t.length : Int)) : t.drop i.toNat = rd_T46 t i :: t.drop (i + 1).toNat := by
  rw [rdSP_at h0 h, show (i + 1).toNat = i.toNat + 1 by omega]
  exact List.drop_eq_getElem_cons (by omega)
def LeavesR (t : List S70) (g : List S46) (r : List S62) : Prop := (GroupOk t g ∧ r = lvs g) ∨ (¬ GroupOk t g ∧ r = [])
theorem LeavesR.uniq {t : List S70} {g : List S46} {r s : List S62} (h : LeavesR t g r) (k : LeavesR t g s) : r = s := by
  rcases h with ⟨h1, h2⟩ | ⟨h1, h2⟩ <;> rcases k with ⟨k1, k2⟩ | ⟨k1, k2⟩
  · rw [h2, k2]
  · exact absurd h1 k1
  · exact absurd k1 h1
  · rw [h2, k2]
theorem LeavesR.len {t : List S70} {g : List S46} {r : List S62} (h : LeavesR t g r) : (r.length : Int) ≤ 16 := by
  rcases h with ⟨h1, h2⟩ | ⟨h1, h2⟩
  · have := h1.2.1
    have := lvs_length g
    rw [h2]; omega
  · rw [h2]; simp
theorem iLeaves_l0 (g : List S46) (hg : (g.length : Int) ≤ 16) (m : Nat) : ∀ (i : Int) (acc : List S62), ((g.length : Int) - i).toNat = m → 0 ≤ i → i ≤ g.length → acc.length + m ≤ 100 →
    Evs (fun k => impl_LeavesOf.l0 k acc g g.length i) (fun r => r = acc ++ lvs (g.drop i.toNat)) := by
  induction m with
  | zero =>
    intro i acc hm h0 h1 ha
    exact Evs.step (fun k => by rw [impl_LeavesOf.l0]) (Evs.no (by omega) (Evs.ret (by rw [List.drop_eq_nil_of_le (by omega)]; simp [lvs])))
  | succ m ih =>
    intro i acc hm h0 h1 ha
    have hi : i < (g.length : Int) := by omega
    rw [drop_rdSP h0 hi]
    refine Evs.step (fun k => by rw [impl_LeavesOf.l0]) (Evs.yes hi (Evs.yes h0 (Evs.yes hi ?_)))
    rw [w64 (x := i + 1) (by omega) (by omega)]
    unfold lvs
    refine Evs.ite (fun h => ?_) (fun h => Evs.yes (by omega) ?_)
    · rw [if_pos h]
      exact ih (i + 1) acc (by omega) (by omega) (by omega) (by omega)
    · rw [if_neg h]
      exact (ih (i + 1) _ (by omega) (by omega) (by omega) (by simp; omega)).imp fun r hr => by rw [hr]; simp
theorem LeavesOf_ev (t : List S70) (g : List S46) (ht : SmallT t) (hg : (g.length : Int) ≤ 1099511627776) : Evs (fun k => impl_LeavesOf.f k t g) (LeavesR t g) := by
  unfold impl_LeavesOf.f
  refine Evs.bind (ValidGroup_ev t g ht hg) (fun a ha => Evs.ite (fun h => ?_) (fun h => Evs.ret (.inr ⟨fun q => h (ha.2 q), rfl⟩)))
  have hv := ha.1 h
  have hl := hv.2.1
  exact Evs.yes (by omega) (Evs.yes (by omega) ((iLeaves_l0 g (by omega) _ 0 [] rfl (by omega) (by omega) (by simp; omega)).imp fun r hr => .inl ⟨hv, by rw [hr]; simp⟩))
theorem GroupOk.leaf {t : List S70} {g : List S46} (h : GroupOk t g) : 0 < (lvs g).length := by
  have hl := h.2.1
  have hc := (h.2.2 (g.length - 1) (by omega) (by omega)).2.2.1
  have hf : ¬ (rd_T46 g (g.length - 1)).f1 = true := fun q => by have := (hc q).2.1; omega
  have e : g = g.take ((g.length : Int) - 1).toNat ++ g.drop ((g.length : Int) - 1).toNat := (List.take_append_drop _ _).symm
  rw [e, lvs_append, drop_rdSP (by omega) (by omega), List.length_append]
  simp only [lvs]
  rw [if_neg hf]
  simp only [List.length_cons]
  omega
theorem sLeaves_l0 (g : List S46) (hg : (g.length : Int) ≤ 16) (m : Nat) : ∀ (i : Int) (acc : List S62), ((g.length : Int) - i).toNat = m → 0 ≤ i → i ≤ g.length → acc.length + m ≤ 100 →
    Evs (fun k => spec_leaves.l0 k g acc i) (fun r => r = acc ++ lvs (g.drop i.toNat)) := by
  induction m with
  | zero =>
    intro i acc hm h0 h1 ha
    exact Evs.step (fun k => by rw [spec_leaves.l0]) (Evs.no (by omega) (Evs.ret (by rw [List.drop_eq_nil_of_le (by omega)]; simp [lvs])))
  | succ m ih =>
    intro i acc hm h0 h1 ha
    have hi : i < (g.length : Int) := by omega
    rw [drop_rdSP h0 hi]
    refine Evs.step (fun k => by rw [spec_leaves.l0]) (Evs.yes hi (Evs.yes h0 ?_))
    rw [w64 (x := i + 1) (by omega) (by omega)]
    unfold lvs
    refine Evs.ite (fun h => ?_) (fun h => Evs.bind (P := fun r => r = ((rd_T46 g i).f2, (rd_T46 g i).f3)) (by unfold spec_leaf.f; exact Evs.ret rfl) (fun q hq => Evs.yes (by omega) ?_))
    · rw [if_pos h]
      exact ih (i + 1) acc (by omega) (by omega) (by omega) (by omega)
    · subst hq
      rw [if_neg h]
      exact (ih (i + 1) _ (by omega) (by omega) (by omega) (by simp; omega)).imp fun r hr => by rw [hr]; simp
theorem sLeavesOf_ev (t : List S70) (g : List S46) (ht : SmallT t) (hg : (g.length : Int) ≤ 1099511627776) : Evs (fun k => spec_LeavesOf.f k t g) (LeavesR t g) := by
  unfold spec_LeavesOf.f
  refine Evs.bind (validGroup_ev t g ht hg) (fun a ha => Evs.ite (fun h => ?_) (fun h => Evs.ret (.inr ⟨fun q => h (ha.2 q), rfl⟩)))
  have hv := ha.1 h
  have hl := hv.2.1
  unfold spec_leaves.f
  exact Evs.bind (sLeaves_l0 g (by omega) _ 0 [] rfl (by omega) (by omega) (by simp; omega)) (fun r hr => Evs.ret (.inl ⟨hv, by rw [hr]; simp⟩))
def IsMax (g : List S46) (r : Int) : Prop := 0 ≤ r ∧ (∀ j : Int, 0 ≤ j → j < g.length → (rd_T46 g j).f0 ≤ r) ∧ (r = 0 ∨ ∃ j : Int, 0 ≤ j ∧ j < g.length ∧ (rd_T46 g j).f0 = r)
theorem IsMax.uniq {g : List S46} {r s : Int} (h : IsMax g r) (k : IsMax g s) : r = s := by
  obtain ⟨h0, h1, h2⟩ := h
  obtain ⟨k0, k1, k2⟩ := k
  have a : r ≤ s := by
    rcases h2 with h2 | ⟨j, j0, j1, e⟩
    · omega
    · have := k1 j j0 j1; omega
  have b : s ≤ r := by
    rcases k2 with k2 | ⟨j, j0, j1, e⟩
    · omega
    · have := h1 j j0 j1; omega
  omega
def DepthR (t : List S70) (g : List S46) (r : Int) : Prop := (GroupOk t g ∧ IsMax g r) ∨ (¬ GroupOk t g ∧ r = -1)
theorem DepthR.uniq {t : List S70} {g : List S46} {r s : Int} (h : DepthR t g r) (k : DepthR t g s) : r = s := by
  rcases h with ⟨h1, h2⟩ | ⟨h1, h2⟩ <;> rcases k with ⟨k1, k2⟩ | ⟨k1, k2⟩
  · exact h2.uniq k2
  · exact absurd h1 k1
  · exact absurd k1 h1
  · omega
theorem rd_mid {pre xs : List (List S46)} {x : List S46} {i : Int} (h : i = pre.length) : rd_L8 (pre ++ x :: xs) i = x := by
  subst h
  unfold rd_L8
  rw [Int.toNat_natCast, getD_nat _ _ _ (by simp)]
  simp
end Go.Proofs.Ytcbbflemaefeeaa.Pure
