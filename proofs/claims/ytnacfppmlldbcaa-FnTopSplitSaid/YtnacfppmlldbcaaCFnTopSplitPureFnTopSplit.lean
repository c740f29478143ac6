/- The plain proof: what the printed functions tell. Conditions: none beyond the statement's own. -/
import Derived.Test.YtnacfppmlldbcaaCFnTopSplitPureSplit
import Derived.Test.YtnacfppmlldbcaaCFnTopSplitPureBelow
import Derived.Test.YtnacfppmlldbcaaCFnTopSplitPTx5
import Derived.Test.YtnacfppmlldbcaaCFnTopSplitPTx6
import Derived.Test.YtnacfppmlldbcaaCFnTopSplitPTx11
import Derived.Test.YtnacfppmlldbcaaCFnTopSplitPTx10
import Derived.Test.YtnacfppmlldbcaaCFnTopSplitPTx13
namespace Go.Proofs.Ytnacfppmlldbcaa.Pure
open Go.RowKit Go.Proofs.Ytnacfppmlldbcaa.PT Go.Proofs.YtnacfppmlldbcaaW.PrintWords Go.Proofs.YtnacfppmlldbcaaW.PrintLast
set_option linter.unusedVariables false
set_option linter.unusedSimpArgs false
theorem takeWhile_take {α : Type} (p : α → Bool) : ∀ (l : List α) (m : Nat), (∀ j, (h : j < l.length) → j < m → p l[j] = true) → m ≤ l.length → (∀ h : m < l.length, p l[m] = false) → l.takeWhile p = l.take m
  | [], m, _, _, _ => by simp
  | x :: xs, 0, _, _, h => by
    have := h (by simp)
    rw [List.getElem_cons_zero] at this
    rw [List.takeWhile_cons, if_neg (by rw [this]; decide), List.take_zero]
  | x :: xs, m + 1, h, hm, h2 => by
    have h0 := h 0 (by simp) (by omega)
    rw [List.getElem_cons_zero] at h0
    rw [List.takeWhile_cons, if_pos h0, List.take_succ_cons]
    congr 1
    refine takeWhile_take p xs m (fun j hj hjm => ?_) (by simpa using hm) (fun hl => ?_)
    · have := h (j + 1) (by simp; omega) (by omega)
      simpa using this
    · have := h2 (by simp; omega)
      simpa using this
theorem seg_drop (g : List S41) {i e : Int} (h0 : 0 ≤ i) (h1 : i ≤ e) : seg g i e = (g.drop i.toNat).take (e.toNat - i.toNat) := by
  unfold seg
  rw [List.drop_take]
theorem seg_cons (g : List S41) {i e : Int} (h0 : 0 ≤ i) (h1 : i < e) (h2 : e ≤ g.length) : seg g i e = rd_T41 g i :: seg g (i + 1) e := by
  rw [seg_drop g h0 (by omega), seg_drop g (by omega) (by omega), drop_rdSP h0 (by omega)]
  obtain ⟨n, hn⟩ : ∃ n, e.toNat - i.toNat = n + 1 := ⟨e.toNat - i.toNat - 1, by omega⟩
  rw [hn, List.take_succ_cons]
  congr 2
  omega
theorem seg_und (g : List S41) {i e : Int} (h0 : 0 ≤ i) (hi : i < (g.length : Int)) (he : EndR g i e) : seg g i e = rd_T41 g i :: und (rd_T41 g i).f0 (g.drop (i + 1).toNat) := by
  obtain ⟨⟨a, b⟩, c, d⟩ := he
  rw [seg_cons g h0 (by omega) b, seg_drop g (by omega) a]
  congr 1
  unfold und
  refine (takeWhile_take _ _ _ (fun j hj hjm => ?_) ?_ (fun hl => ?_)).symm
  · have hj' : (i + 1).toNat + j < g.length := by rw [List.length_drop] at hj; omega
    have := c (i + 1 + j) (by omega) (by omega)
    rw [rdSP_at (i := i + 1 + j) (by omega) (by omega)] at this
    rw [List.getElem_drop]
    rw [decide_eq_true_iff]
    have e1 : (i + 1 + (j : Int)).toNat = (i + 1).toNat + j := by omega
    simp only [e1] at this
    exact this
  · rw [List.length_drop]; omega
  · have hl' : e < (g.length : Int) := by rw [List.length_drop] at hl; omega
    have := d hl'
    rw [rdSP_at (i := e) (by omega) hl'] at this
    rw [List.getElem_drop]
    rw [decide_eq_false_iff_not]
    have e1 : e.toNat = (i + 1).toNat + (e.toNat - (i + 1).toNat) := by omega
    simp only [← e1]
    omega
theorem kp_seg (g : List S41) (q : Int → Bool) {i e : Int} (h0 : 0 ≤ i) (hi : i < (g.length : Int)) (he : EndR g i e) : kp q (rd_T41 g i) (g.drop (i + 1).toNat) = (seg g i e).any (isL q) := by
  rw [seg_und g h0 hi he]
  rfl
theorem selq_at (g : List S41) (q : Int → Bool) {i e : Int} (h0 : 0 ≤ i) (hi : i < (g.length : Int)) (he : EndR g i e) : selq q (g.drop i.toNat) = (if (seg g i e).any (isL q) = true then [rd_T41 g i] else []) ++ selq q (g.drop (i + 1).toNat) := by
  rw [drop_rdSP h0 hi, selq, kp_seg g q h0 hi he]
  split <;> simp
theorem idxAny {α : Type} (f : Nat → α → Option Bool) (p : α → Bool) : ∀ (l : List α) (i : Int), 0 ≤ i → (∀ x ∈ l, Evs (fun k => f k x) (fun r => r = p x)) → Evs (fun k => idxO (f k) l i) (fun r => 0 ≤ r ↔ l.any p = true)
  | [], i, _, _ => by
    refine Evs.congr (fun k => by rw [idxO]) (Evs.ret (a := (-1 : Int)) ?_)
    simp
  | x :: xs, i, hi, h => by
    refine Evs.congr (fun k => by rw [idxO]) (Evs.bind (h x (by simp)) (fun b hb => ?_))
    subst hb
    refine Evs.ite (fun hp => Evs.ret ?_) (fun hp => (idxAny f p xs (i + 1) (by omega) (fun y hy => h y (by simp [hy]))).imp fun r hr => hr.trans ?_)
    · rw [List.any_cons, hp]
      exact ⟨fun _ => rfl, fun _ => hi⟩
    · have hp' : p x = false := by simpa using hp
      rw [List.any_cons, hp', Bool.false_or]
theorem with_go (g : List S41) (hg : (g.length : Int) ≤ 16) (P : Nat → S41 → Option Bool) (q : Int → Bool) (hP : ∀ x ∈ g, x.f1 = false → Evs (fun k => P k x) (fun r => r = q x.f2)) : ∀ (n i : Nat) (acc : List S41), i + n = g.length →
    Evs (fun k => impl_with.go k (P k) g n i acc) (fun r => r = acc ++ selq q (g.drop i))
  | 0, i, acc, h => by
    refine Evs.congr (fun k => by rw [impl_with.go]) (Evs.ret (a := acc) ?_)
    rw [List.drop_eq_nil_of_le (by omega)]
    simp [selq]
  | n + 1, i, acc, h => by
    have hi : (i : Int) < (g.length : Int) := by omega
    refine Evs.congr (fun k => by rw [impl_with.go]) (Evs.bind (iend_ev g i (by omega) hi (by omega)) (fun e he => ?_))
    have h1 := he.1
    refine Evs.yes ⟨by omega, h1.2⟩ ?_
    have hs : (g.take e.toNat).drop i = seg g (i : Int) e := by unfold seg; rw [Int.toNat_natCast]
    rw [hs]
    refine Evs.bind (idxAny (fun k x => impl_with.q (P k) x) (isL q) (seg g (i : Int) e) 0 (by omega) (fun x hx => ?_)) (fun b hb => ?_)
    · have hxg : x ∈ g := by
        unfold seg at hx
        exact List.mem_of_mem_take (List.mem_of_mem_drop hx)
      unfold impl_with.q isL
      by_cases hf : x.f1 = true
      · rw [hf]
        exact Evs.yes rfl (Evs.ret rfl)
      · have hf' : x.f1 = false := by simpa using hf
        refine Evs.no hf ((hP x hxg hf').imp fun r hr => ?_)
        rw [hr, hf']
        rfl
    · have hat := selq_at g q (i := (i : Int)) (by omega) hi he
      rw [Int.toNat_natCast, show ((i : Int) + 1).toNat = i + 1 by omega] at hat
      rw [hat]
      by_cases hp : 0 ≤ b
      · rw [if_pos hp, if_pos (hb.1 hp)]
        refine (with_go g hg P q hP n (i + 1) _ (by omega)).imp fun r hr => ?_
        rw [hr, List.append_assoc]
      · rw [if_neg hp, if_neg (fun k => hp (hb.2 k)), List.nil_append]
        exact with_go g hg P q hP n (i + 1) _ (by omega)
theorem with_ev (g : List S41) (hg : (g.length : Int) ≤ 16) (P : Nat → S41 → Option Bool) (q : Int → Bool) (hP : ∀ x ∈ g, x.f1 = false → Evs (fun k => P k x) (fun r => r = q x.f2)) : Evs (fun k => impl_with.f k (P k) g) (fun r => r = selq q g) := by
  unfold impl_with.f
  refine Evs.yes (by omega) ((with_go g hg P q hP g.length 0 [] (by omega)).imp fun r hr => ?_)
  rw [hr]
  simp
theorem mem_part {t : List S51} {g : List S41} (h : GroupOk t g) {x : S41} (hx : x ∈ g) (hf : x.f1 = false) : HasC t x.f2 := by
  obtain ⟨i, hi, rfl⟩ := List.getElem_of_mem hx
  have := (h.2.2 (i : Int) (by omega) (by omega)).2.2.2
  rw [rdSP_at (by omega) (by omega)] at this
  simp only [Int.toNat_natCast] at this
  exact this hf
noncomputable def isQ (t : List S51) (a : Int) (c : Int) : Bool := decide (Bel t c a)
theorem isQ_of {t : List S51} {a c : Int} {r : Bool} (h : r = true ↔ Bel t c a) : r = isQ t a c := by
  unfold isQ
  rw [Bool.eq_iff_iff, h, decide_eq_true_iff]
theorem split_ev (t : List S51) (g : List S41) (a : Int) (h : GroupOk t g) : Evs (fun k => impl_Tree_split.f k t g a) (fun r => r = (selq (isQ t a) g, selq (fun c => !isQ t a c) g)) := by
  have hg := h.2.1.2
  unfold impl_Tree_split.f
  refine Evs.bind (with_ev g hg (fun k => impl_Tree_split.p1 k t a) (isQ t a) (fun x hx hf => ?_)) (fun r1 h1 => Evs.bind (with_ev g hg (fun k => impl_Tree_split.p2 k t a) (fun c => !isQ t a c) (fun x hx hf => ?_)) (fun r2 h2 => Evs.ret ?_))
  · unfold impl_Tree_split.p1
    exact (Tree_is_ev t x.f2 a h.1 (mem_part h hx hf)).imp fun r hr => isQ_of hr
  · unfold impl_Tree_split.p2
    exact Evs.bind (Tree_is_ev t x.f2 a h.1 (mem_part h hx hf)) (fun r hr => Evs.ret (by rw [isQ_of hr]))
  · rw [h1, h2]
def SplitR (t : List S51) (g : List S41) (a : Int) (r : List S41 × List S41) : Prop := ((GroupOk t g ∧ HasC t a) ∧ r = (selq (isQ t a) g, selq (fun c => !isQ t a c) g)) ∨ (¬ (GroupOk t g ∧ HasC t a) ∧ r = ([], []))
theorem SplitR.uniq {t : List S51} {g : List S41} {a : Int} {r s : List S41 × List S41} (h : SplitR t g a r) (k : SplitR t g a s) : r = s := by
  rcases h with ⟨h1, h2⟩ | ⟨h1, h2⟩ <;> rcases k with ⟨k1, k2⟩ | ⟨k1, k2⟩
  · rw [h2, k2]
  · exact absurd h1 k1
  · exact absurd k1 h1
  · rw [h2, k2]
theorem SplitR.len {t : List S51} {g : List S41} {a : Int} {r : List S41 × List S41} (h : SplitR t g a r) : (r.1.length : Int) ≤ 16 ∧ (r.2.length : Int) ≤ 16 := by
  rcases h with ⟨h1, h2⟩ | ⟨h1, h2⟩
  · have := h1.1.2.1
    have a1 := selq_length (isQ t a) g
    have a2 := selq_length (fun c => !isQ t a c) g
    rw [h2]
    simp only
    omega
  · rw [h2]; simp
theorem SplitGroup_ev (t : List S51) (g : List S41) (a : Int) (ht : SmallT t) (hg : (g.length : Int) ≤ 9223372036854775807) : Evs (fun k => impl_SplitGroup.f k t g a) (SplitR t g a) := by
  unfold impl_SplitGroup.f
  refine Evs.bind (ValidGroup_ev t g ht hg) (fun v hv => Evs.ite (fun h => ?_) (fun h => Evs.ret (.inr ⟨fun q => h (hv.2 q.1), rfl⟩)))
  refine Evs.bind (Evs.const (P := fun r => r = true ↔ HasC t a) (has_eq t a ht) decide_eq_true_iff) (fun c hc => Evs.ite (fun h' => ?_) (fun h' => Evs.ret (.inr ⟨fun q => h' (hc.2 q.2), rfl⟩)))
  exact Evs.bind (split_ev t g a (hv.1 h)) (fun r hr => Evs.ret (.inl ⟨⟨hv.1 h, hc.1 h'⟩, by rw [hr]⟩))
theorem keeps_l0 (t : List S51) (g : List S41) (a i e : Int) (yes : Bool) (h : GroupOk t g) (h0 : 0 ≤ i) (hi : i < (g.length : Int)) (he : EndR g i e) : ∀ (m : Nat) (x : Int), (e - x).toNat = m → i ≤ x → x ≤ e →
    Evs (fun k => spec_keeps.l0 k g i a yes x t) (fun r => r = (seg g x e).any (isL (fun c => isQ t a c == yes)))
  | 0, x, hm, h1, h2 => by
    refine Evs.step (fun k => by rw [spec_keeps.l0]) (Evs.bind (endOf_ev g i h0 hi (by have := h.2.1; omega)) (fun e' he' => ?_))
    have := he'.uniq he
    subst this
    refine Evs.no (by omega) (Evs.ret (a := false) ?_)
    have hz : seg g x e' = [] := by
      have e1 : x = e' := by omega
      subst e1
      rw [seg_drop g (by omega) (by omega)]
      simp
    rw [hz]
    rfl
  | m + 1, x, hm, h1, h2 => by
    have hb := he.1
    have hgl := h.2.1
    refine Evs.step (fun k => by rw [spec_keeps.l0]) (Evs.bind (endOf_ev g i h0 hi (by omega)) (fun e' he' => ?_))
    have := he'.uniq he
    subst this
    rw [seg_cons g (i := x) (by omega) (by omega) hb.2, List.any_cons]
    have ih := keeps_l0 t g a i e' yes h h0 hi he m (x + 1) (by omega) (by omega) (by omega)
    refine Evs.yes (by omega) (Evs.yes (by omega) (Evs.yes (by omega) ?_))
    rw [w64 (x := x + 1) (by omega) (by omega)]
    refine Evs.ite (fun hf => ?_) (fun hf => ?_)
    · refine ih.imp fun r hr => ?_
      rw [hr]
      unfold isL
      rw [hf]
      rfl
    · have hf' : (rd_T41 g x).f1 = false := by simpa using hf
      have hc := (h.2.2 x (by omega) (by omega)).2.2.2 hf'
      refine Evs.bind (isA_ev t _ a h.1 hc) (fun b hb' => ?_)
      have hbq := isQ_of hb'
      have hl : isL (fun c => isQ t a c == yes) (rd_T41 g x) = (b == yes) := by
        unfold isL
        rw [hf', hbq]
        rfl
      rw [hl]
      refine Evs.ite (fun hy => Evs.ret (by rw [hy]; rfl)) (fun hy => ih.imp fun r hr => ?_)
      have hy' : (b == yes) = false := by simpa using hy
      rw [hr, hy', Bool.false_or]
theorem keeps_ev (t : List S51) (g : List S41) (a i e : Int) (yes : Bool) (h : GroupOk t g) (h0 : 0 ≤ i) (hi : i < (g.length : Int)) (he : EndR g i e) : Evs (fun k => spec_keeps.f k t g i a yes) (fun r => r = (seg g i e).any (isL (fun c => isQ t a c == yes))) := by
  unfold spec_keeps.f
  have := he.1
  exact keeps_l0 t g a i e yes h h0 hi he _ i rfl (by omega) (by omega)
theorem yes_q (t : List S51) (a : Int) : (fun c => isQ t a c == true) = isQ t a := by funext c; simp
theorem no_q (t : List S51) (a : Int) : (fun c => isQ t a c == false) = fun c => !isQ t a c := by funext c; simp
theorem ssplit_l0 (t : List S51) (g : List S41) (a : Int) (h : GroupOk t g) : ∀ (m : Nat) (i : Int) (x y : List S41), ((g.length : Int) - i).toNat = m → 0 ≤ i → i ≤ g.length → x.length ≤ i → y.length ≤ i →
    Evs (fun k => spec_split.l0 k g a x y i t) (fun r => r = (x ++ selq (isQ t a) (g.drop i.toNat), y ++ selq (fun c => !isQ t a c) (g.drop i.toNat)))
  | 0, i, x, y, hm, h0, h1, hx, hy => by
    refine Evs.step (fun k => by rw [spec_split.l0]) (Evs.no (by omega) (Evs.ret (a := (x, y)) ?_))
    rw [List.drop_eq_nil_of_le (by omega)]
    simp [selq]
  | m + 1, i, x, y, hm, h0, h1, hx, hy => by
    have hi : i < (g.length : Int) := by omega
    have hgl := h.2.1
    obtain ⟨k0, e, _, he⟩ := (endOf_ev g i h0 hi (by omega)).rounds
    have ih := fun x' y' (hx' : x'.length ≤ i + 1) (hy' : y'.length ≤ i + 1) => ssplit_l0 t g a h m (i + 1) x' y' (by omega) (by omega) (by omega) hx' hy'
    have k1 := keeps_ev t g a i e true h h0 hi he
    have k2 := keeps_ev t g a i e false h h0 hi he
    rw [yes_q] at k1
    rw [no_q] at k2
    have s1 := selq_at g (isQ t a) h0 hi he
    have s2 := selq_at g (fun c => !isQ t a c) h0 hi he
    rw [s1, s2]
    refine Evs.step (fun k => by rw [spec_split.l0]) (Evs.yes hi (Evs.bind k1 (fun b hb => ?_)))
    rw [w64 (x := i + 1) (by omega) (by omega)]
    refine Evs.ite (fun hp => ?_) (fun hp => ?_)
    · refine Evs.yes h0 (Evs.yes (by omega) (Evs.bind (P := fun z => z = x ++ [rd_T41 g i]) (Evs.ret rfl) (fun z hz => Evs.bind k2 (fun c hc => ?_))))
      subst hz
      rw [← hb, if_pos hp]
      refine Evs.ite (fun hq => Evs.yes (by omega) ?_) (fun hq => ?_)
      · rw [← hc, if_pos hq]
        refine (ih _ _ (by simp; omega) (by simp; omega)).imp fun r hr => ?_
        rw [hr, List.append_assoc, List.append_assoc]
      · rw [← hc, if_neg hq, List.nil_append]
        refine (ih _ _ (by simp; omega) (by omega)).imp fun r hr => ?_
        rw [hr, List.append_assoc]
    · rw [← hb, if_neg hp, List.nil_append]
      refine Evs.bind k2 (fun c hc => Evs.ite (fun hq => Evs.yes h0 (Evs.yes (by omega) ?_)) (fun hq => ?_))
      · rw [← hc, if_pos hq]
        refine (ih _ _ (by omega) (by simp; omega)).imp fun r hr => ?_
        rw [hr, List.append_assoc]
      · rw [← hc, if_neg hq, List.nil_append]
        exact ih _ _ (by omega) (by omega)
theorem sSplitGroup_ev (t : List S51) (g : List S41) (a : Int) (ht : SmallT t) (hg : (g.length : Int) ≤ 9223372036854775807) : Evs (fun k => spec_SplitGroup.f k t g a) (SplitR t g a) := by
  unfold spec_SplitGroup.f
  refine Evs.bind (validGroup_ev t g ht hg) (fun v hv => Evs.ite (fun h => ?_) (fun h => Evs.ret (.inr ⟨fun q => h (hv.2 q.1), rfl⟩)))
  refine Evs.bind (hasClass_ev t a ht) (fun c hc => Evs.ite (fun h' => ?_) (fun h' => Evs.ret (.inr ⟨fun q => h' (hc.2 q.2), rfl⟩)))
  refine Evs.bind (P := fun r => r = (selq (isQ t a) g, selq (fun c => !isQ t a c) g)) ?_ (fun r hr => Evs.ret (.inl ⟨⟨hv.1 h, hc.1 h'⟩, by rw [hr]⟩))
  unfold spec_split.f
  have := ssplit_l0 t g a (hv.1 h) _ 0 [] [] rfl (by omega) (by omega) (by simp) (by simp)
  simpa using this
theorem psame_iff (a b : S41) : (!(a.f0 == b.f0) || (!(a.f1 == b.f1) || (!(a.f2 == b.f2) || (!(a.f3 == b.f3))))) = true ↔ a ≠ b := by
  have e : a = b ↔ a.f0 = b.f0 ∧ a.f1 = b.f1 ∧ a.f2 = b.f2 ∧ a.f3 = b.f3 := by
    constructor
    · rintro rfl
      exact ⟨rfl, rfl, rfl, rfl⟩
    · rintro ⟨h0, h1, h2, h3⟩
      cases a
      cases b
      simp only at h0 h1 h2 h3
      rw [h0, h1, h2, h3]
  rw [Ne, e]
  simp only [Bool.or_eq_true, Bool.not_eq_true', beq_eq_false_iff_ne, ne_eq, Classical.not_and_iff_not_or_not]
theorem ext_rdSP {x y : List S41} (hl : x.length = y.length) (h : ∀ j : Int, 0 ≤ j → j < x.length → rd_T41 x j = rd_T41 y j) : x = y := by
  refine List.ext_getElem hl fun i h1 h2 => ?_
  have := h i (by omega) (by omega)
  unfold rd_T41 at this
  rwa [Int.toNat_natCast, getD_nat _ _ _ h1, getD_nat _ _ _ h2] at this
theorem equalGroup_l0 (x y : List S41) (hl : x.length = y.length) (hx : (x.length : Int) ≤ 9223372036854775807) : ∀ (m : Nat) (i : Int), ((x.length : Int) - i).toNat = m → 0 ≤ i → i ≤ x.length →
    Evs (fun k => laws_equalGroup.l0 k x y i) (fun r => r = true ↔ ∀ j : Int, i ≤ j → j < x.length → rd_T41 x j = rd_T41 y j)
  | 0, i, hm, h0, h1 => by
    exact Evs.step (fun k => by rw [laws_equalGroup.l0]) (Evs.no (by omega) (Evs.ret ⟨fun _ j j0 j1 => by omega, fun _ => rfl⟩))
  | m + 1, i, hm, h0, h1 => by
    refine Evs.step (fun k => by rw [laws_equalGroup.l0]) (Evs.yes (by omega) (Evs.yes h0 (Evs.yes (by omega) (Evs.ite (fun h => Evs.ret ⟨fun q => by simp at q, fun q => absurd (q i (by omega) (by omega)) ((psame_iff _ _).1 h)⟩) (fun h => ?_)))))
    have h : rd_T41 x i = rd_T41 y i := Classical.byContradiction fun q => h ((psame_iff _ _).2 q)
    rw [w64 (x := i + 1) (by omega) (by omega)]
    refine (equalGroup_l0 x y hl hx m (i + 1) (by omega) (by omega) (by omega)).imp fun r hr => ?_
    rw [hr]
    exact ⟨fun q => from_here (P := fun j => rd_T41 x j = rd_T41 y j) h q, fun q j j0 j1 => q j (by omega) j1⟩
theorem equalGroup_ev (x y : List S41) (hx : (x.length : Int) ≤ 9223372036854775807) : Evs (fun k => laws_equalGroup.f k x y) (fun r => r = true ↔ x = y) := by
  unfold laws_equalGroup.f
  refine Evs.ite (fun h => ?_) (fun h => Evs.ret ⟨fun q => by simp at q, fun q => absurd (by rw [q]) h⟩)
  have hl : x.length = y.length := by omega
  refine (equalGroup_l0 x y hl hx _ 0 rfl (by omega) (by omega)).imp fun r hr => ?_
  rw [hr]
  exact ⟨fun q => ext_rdSP hl q, fun q j _ _ => by rw [q]⟩
theorem lhas_ev (t : List S51) (a : Int) : Evs (fun _ => laws_has.f t a) (fun r => r = true ↔ HasC t a) := by
  unfold laws_has.f
  refine Evs.ite (fun h => Evs.ret ?_) (fun h => Evs.ret ⟨fun q => by simp at q, fun q => absurd q.1 h⟩)
  rw [decide_eq_true_iff]
  exact ⟨fun q => ⟨h, q⟩, fun q => q.2⟩
def cnt (c d : Int) (l : List S35) : Nat := l.countP (fun y => y.f0 == c && y.f1 == d)
theorem cnt_len (c d : Int) (l : List S35) : cnt c d l ≤ l.length := List.countP_le_length
theorem drop_rdSL {t : List S35} {i : Int} (h0 : 0 ≤ i) (h : i < (t.length : Int)) : t.drop i.toNat = rd_T35 t i :: t.drop (i + 1).toNat := by
  unfold rd_T35
  rw [getD_nat _ _ _ (by omega), show (i + 1).toNat = i.toNat + 1 by omega]
  exact List.drop_eq_getElem_cons (by omega)
theorem count_l0 (l : List S35) (c d : Int) (hl : (l.length : Int) ≤ 16) : ∀ (m : Nat) (i n : Int), ((l.length : Int) - i).toNat = m → 0 ≤ i → i ≤ l.length → 0 ≤ n → n ≤ i →
    Evs (fun k => laws_count.l0 k l n i c d) (fun r => r = n + cnt c d (l.drop i.toNat))
  | 0, i, n, hm, h0, h1, hn, hn' => by
    refine Evs.step (fun k => by rw [laws_count.l0]) (Evs.no (by omega) (Evs.ret (a := n) ?_))
    rw [List.drop_eq_nil_of_le (by omega)]
    simp [cnt]
  | m + 1, i, n, hm, h0, h1, hn, hn' => by
    have hi : i < (l.length : Int) := by omega
    refine Evs.step (fun k => by rw [laws_count.l0]) (Evs.yes hi (Evs.yes h0 ?_))
    rw [w64 (x := i + 1) (by omega) (by omega), w64 (x := n + 1) (by omega) (by omega), drop_rdSL h0 hi]
    unfold cnt
    rw [List.countP_cons]
    refine Evs.ite (fun h => ?_) (fun h => ?_)
    · rw [if_pos h]
      refine (count_l0 l c d hl m (i + 1) (n + 1) (by omega) (by omega) (by omega) (by omega) (by omega)).imp fun r hr => ?_
      rw [hr]
      unfold cnt
      omega
    · rw [if_neg h]
      exact count_l0 l c d hl m (i + 1) n (by omega) (by omega) (by omega) (by omega) (by omega)
theorem count_ev (l : List S35) (c d : Int) (hl : (l.length : Int) ≤ 16) : Evs (fun k => laws_count.f k l c d) (fun r => r = (cnt c d l : Int)) := by
  unfold laws_count.f
  refine (count_l0 l c d hl _ 0 0 rfl (by omega) (by omega) (by omega) (by omega)).imp fun r hr => ?_
  rw [hr]
  simp
theorem cnt_parts (c d : Int) (q : S35 → Bool) : ∀ (l : List S35), cnt c d (l.filter q) + cnt c d (l.filter (fun y => !q y)) = cnt c d l
  | [] => rfl
  | y :: l => by
    have ih := cnt_parts c d q l
    unfold cnt at ih ⊢
    by_cases h : q y = true
    · rw [List.filter_cons, if_pos h, List.filter_cons, if_neg (by rw [h]; decide), List.countP_cons, List.countP_cons]
      omega
    · have h' : q y = false := by simpa using h
      rw [List.filter_cons, if_neg h, List.filter_cons, if_pos (by rw [h']; decide), List.countP_cons, List.countP_cons]
      omega
theorem len_parts (q : S35 → Bool) : ∀ (l : List S35), (l.filter q).length + (l.filter (fun y => !q y)).length = l.length
  | [] => rfl
  | y :: l => by
    have ih := len_parts q l
    by_cases h : q y = true
    · rw [List.filter_cons, if_pos h, List.filter_cons, if_neg (by rw [h]; decide)]
      simp only [List.length_cons]
      omega
    · have h' : q y = false := by simpa using h
      rw [List.filter_cons, if_neg h, List.filter_cons, if_pos (by rw [h']; decide)]
      simp only [List.length_cons]
      omega
theorem cnt_pos {l : List S35} {y : S35} (hy : y ∈ l) (q : S35 → Bool) : 0 < cnt y.f0 y.f1 (l.filter q) ↔ q y = true := by
  unfold cnt
  rw [List.countP_pos_iff]
  constructor
  · rintro ⟨z, hz, e⟩
    rw [Bool.and_eq_true, beq_iff_eq, beq_iff_eq] at e
    have ez : z = y := by
      cases z
      cases y
      simp only at e
      rw [e.1, e.2]
    subst ez
    exact (List.mem_filter.1 hz).2
  · intro h
    exact ⟨y, List.mem_filter.2 ⟨hy, h⟩, by simp⟩
theorem FnTopSplit_l0 (t : List S51) (g : List S41) (a : Int) (ht : SmallT t) (h : GroupOk t g) (hc : HasC t a) (m : Nat) : ∀ (i : Int), ((lvs g).length - i).toNat = m → 0 ≤ i → i ≤ (lvs g).length →
    Evs (fun k => laws_FnTopSplit.l0 k a (selq (isQ t a) g) (lvs (selq (isQ t a) g)) (lvs (selq (fun c => !isQ t a c) g)) (lvs g) i t) (fun b => b = true) := by
  have hgl := h.2.1
  have hll := lvs_length g
  have e1 := Chn.lvs_sel (q := isQ t a) h.chn
  have e2 := Chn.lvs_sel (q := fun c => !isQ t a c) h.chn
  have sl := selq_length (isQ t a) g
  have l1 := lvs_length (selq (isQ t a) g)
  have l2 := lvs_length (selq (fun c => !isQ t a c) g)
  have sl2 := selq_length (fun c => !isQ t a c) g
  have hp := len_parts (fun y => isQ t a y.f0) (lvs g)
  rw [← e1, ← e2] at hp
  induction m with
  | zero =>
    intro i hm h0 h1
    refine Evs.step (fun k => by rw [laws_FnTopSplit.l0]) (Evs.no (by omega) (Evs.bind (SplitGroup_ev t (selq (isQ t a) g) a ht (by omega)) (fun r hr => ?_)))
    rw [w64 (by omega) (by omega)]
    refine Evs.yes (by omega) (Evs.ite (fun hz => Evs.ret rfl) (fun hz => ?_))
    have hne : selq (isQ t a) g ≠ [] := fun q => hz (by rw [q]; rfl)
    have hok := (h.selq_ok (q := isQ t a)).resolve_left hne
    rcases hr with ⟨_, hr⟩ | ⟨q, _⟩
    case inr => exact absurd ⟨hok, hc⟩ q
    rw [selq_sel, h.selq_other] at hr
    subst hr
    refine Evs.bind (equalGroup_ev _ _ (by simp only; omega)) (fun c hc' => Evs.yes (hc'.2 rfl) (Evs.ret (by simp)))
  | succ m ih =>
    intro i hm h0 h1
    have hi : i < ((lvs g).length : Int) := by omega
    have hy : rd_T35 (lvs g) i ∈ lvs g := by
      unfold rd_T35; rw [getD_nat _ _ _ (by omega)]; exact List.getElem_mem _
    generalize hyv : rd_T35 (lvs g) i = y at hy
    have c1 := cnt_parts y.f0 y.f1 (fun y => isQ t a y.f0) (lvs g)
    rw [← e1, ← e2] at c1
    have c2 := cnt_pos hy (fun y => isQ t a y.f0)
    rw [← e1] at c2
    have c3 := cnt_len y.f0 y.f1 (lvs g)
    refine Evs.step (fun k => by rw [laws_FnTopSplit.l0]) (Evs.yes hi (Evs.yes h0 ?_))
    rw [hyv, w64 (x := i + 1) (by omega) (by omega)]
    refine Evs.bind (count_ev _ _ _ (by omega)) (fun n1 hn1 => Evs.bind (count_ev _ _ _ (by omega)) (fun n2 hn2 => Evs.bind (count_ev _ _ _ (by omega)) (fun n3 hn3 => ?_)))
    subst hn1 hn2 hn3
    rw [w64 (by omega) (by omega)]
    refine Evs.yes (by omega) (Evs.bind (count_ev _ _ _ (by omega)) (fun n4 hn4 => Evs.bind (IsA_ev t y.f0 a ht) (fun b hb => ?_)))
    subst hn4
    have hbq : b = isQ t a y.f0 := isQ_of (hb.trans ⟨fun q => q.2, fun q => ⟨h.1, q⟩⟩)
    refine Evs.no ?_ (ih (i + 1) (by omega) (by omega) (by omega))
    have : decide ((cnt y.f0 y.f1 (lvs (selq (isQ t a) g)) : Int) > 0) = b := by
      rw [hbq, Bool.eq_iff_iff, decide_eq_true_iff]
      exact ⟨fun q => c2.1 (by omega), fun q => by have := c2.2 q; omega⟩
    rw [this]
    simp
theorem leaves_sel {t : List S51} {g : List S41} {q : Int → Bool} (h : GroupOk t g) {r : List S35} (hr : LeavesR t (selq q g) r) : r = lvs (selq q g) := by
  rcases hr with ⟨_, hr⟩ | ⟨hn, hr⟩
  · exact hr
  · rcases h.selq_ok (q := q) with e | k
    · rw [hr, e]; rfl
    · exact absurd k hn
theorem FnTopSplit_j0 (t : List S51) (g : List S41) (a : Int) (r : List S41 × List S41) (b : Bool) (ht : SmallT t) (hg : (g.length : Int) ≤ 9223372036854775807) (hr : SplitR t g a r) (hb : b = false → GroupOk t g ∧ HasC t a) :
    Evs (fun k => laws_FnTopSplit.j0 k g a r.1 r.2 r.1 r.2 b t) (fun y => y = true) := by
  have hl := hr.len
  refine Evs.step (fun k => by rw [laws_FnTopSplit.j0]) (Evs.ite (fun h => ?_) (fun h => ?_))
  · exact Evs.bind (equalGroup_ev _ _ (by omega)) (fun c hc => Evs.yes (hc.2 rfl) (Evs.bind (equalGroup_ev _ _ (by omega)) (fun c hc => Evs.ret (hc.2 rfl))))
  · have hv := hb (by simpa using h)
    rcases hr with ⟨_, hr⟩ | ⟨q, _⟩
    case inr => exact absurd hv q
    subst hr
    refine Evs.bind (LeavesOf_ev t _ ht (by omega)) (fun m hm => Evs.bind (LeavesOf_ev t _ ht (by omega)) (fun n hn => Evs.bind (LeavesOf_ev t g ht hg) (fun all hall => ?_)))
    rw [leaves_sel hv.1 hm, leaves_sel hv.1 hn]
    rcases hall with ⟨_, hall⟩ | ⟨q, _⟩
    case inr => exact absurd hv.1 q
    rw [hall]
    exact FnTopSplit_l0 t g a ht hv.1 hv.2 _ 0 rfl (by omega) (by omega)
theorem FnTopSplit : ∀ (l0 : List S51), l0.length ≤ maxLen → (∀ y ∈ l0, y.f0.size ≤ maxLen ∧ (Lit.int .i64 y.f1).wf = true) → ∀ (l1 : List S41), l1.length ≤ maxLen → (∀ y ∈ l1, (Lit.int .i64 y.f0).wf = true ∧ (True ∧ ((Lit.int .i64 y.f2).wf = true ∧ (Lit.int .i64 y.f3).wf = true))) → ∀ (a2 : Int), (Lit.int .i64 a2).wf = true → ∃ k, laws_FnTopSplit.f k l0 l1 a2 = some true := by
  intro t h1 h2 g h3 _ a _
  have hm : maxLen = 9223372036854775807 := by decide
  rw [hm] at h1 h3
  have ht : SmallT t := ⟨by omega, fun c hc => by have := (h2 c hc).1; rw [hm] at this; omega⟩
  have hg : (g.length : Int) ≤ 9223372036854775807 := by omega
  apply Evs.done
  unfold laws_FnTopSplit.f
  refine Evs.bind (SplitGroup_ev t g a ht hg) (fun r hr => Evs.bind (sSplitGroup_ev t g a ht hg) (fun s hs => ?_))
  have e := hr.uniq hs
  subst e
  have hl := hr.len
  refine Evs.bind (equalGroup_ev _ _ (by omega)) (fun c hc => Evs.yes (hc.2 rfl) (Evs.bind (equalGroup_ev _ _ (by omega)) (fun d hd => Evs.yes (hd.2 rfl) ?_)))
  refine Evs.bind (ValidGroup_ev t g ht hg) (fun v hv => Evs.ite (fun h => ?_) (fun h => FnTopSplit_j0 t g a r true ht hg hr (fun q => by simp at q)))
  refine Evs.bind (lhas_ev t a) (fun w hw => FnTopSplit_j0 t g a r _ ht hg hr (fun q => ⟨hv.1 h, hw.1 (by simpa using q)⟩))
end Go.Proofs.Ytnacfppmlldbcaa.Pure
