/- The plain proof: what the printed functions tell. Conditions: none beyond the statement's own. -/
import Derived.Test.YtnacfppmlldbcaaCFnTopSplitPureLeaves
namespace Go.Proofs.Ytnacfppmlldbcaa.Pure
open Go.RowKit Go.Proofs.Ytnacfppmlldbcaa.PT Go.Proofs.YtnacfppmlldbcaaW.PrintWords
set_option linter.unusedVariables false
set_option linter.unusedSimpArgs false
def und (d : Int) (l : List S41) : List S41 := l.takeWhile (fun x => decide (d < x.f0))
def isL (q : Int → Bool) (x : S41) : Bool := !x.f1 && q x.f2
def kp (q : Int → Bool) (p : S41) (ps : List S41) : Bool := (p :: und p.f0 ps).any (isL q)
def selq (q : Int → Bool) : List S41 → List S41
  | [] => []
  | p :: ps => if kp q p ps = true then p :: selq q ps else selq q ps
theorem und_mem {d : Int} {l : List S41} {x : S41} (h : x ∈ und d l) : x ∈ l ∧ d < x.f0 := by
  unfold und at h
  induction l with
  | nil => simp at h
  | cons y ys ih =>
    rw [List.takeWhile_cons] at h
    by_cases q : d < y.f0
    · rw [if_pos (by simpa using q)] at h
      rcases List.mem_cons.1 h with rfl | h
      · exact ⟨by simp, q⟩
      · exact ⟨by simp [(ih h).1], (ih h).2⟩
    · rw [if_neg (by simpa using q)] at h
      simp at h
theorem und_split (d : Int) : ∀ (l : List S41), ∃ rest, l = und d l ++ rest ∧ ∀ y ys, rest = y :: ys → y.f0 ≤ d
  | [] => ⟨[], rfl, fun y ys h => by simp at h⟩
  | x :: xs => by
    unfold und
    rw [List.takeWhile_cons]
    by_cases q : d < x.f0
    · rw [if_pos (by simpa using q)]
      obtain ⟨rest, h1, h2⟩ := und_split d xs
      refine ⟨rest, ?_, h2⟩
      have h1' : xs = List.takeWhile (fun x => decide (d < x.f0)) xs ++ rest := h1
      rw [List.cons_append, ← h1']
    · rw [if_neg (by simpa using q)]
      refine ⟨x :: xs, rfl, fun y ys h => ?_⟩
      obtain ⟨rfl, _⟩ := List.cons.inj h
      omega
theorem und_stop {d e : Int} {b : List S41} (hb : ∀ y ys, b = y :: ys → y.f0 ≤ d) (hd : d ≤ e) : und e b = [] := by
  cases b with
  | nil => rfl
  | cons y ys =>
    have := hb y ys rfl
    unfold und
    rw [List.takeWhile_cons, if_neg (by simp <;> omega)]
theorem und_app {d e : Int} {b : List S41} (hb : ∀ y ys, b = y :: ys → y.f0 ≤ d) (hd : d ≤ e) : ∀ (a : List S41), und e (a ++ b) = und e a
  | [] => by rw [List.nil_append, und_stop hb hd]; rfl
  | x :: a => by
    have ih := und_app hb hd a
    unfold und at ih ⊢
    rw [List.cons_append, List.takeWhile_cons, List.takeWhile_cons, ih]
theorem und_all {d : Int} {b : List S41} : ∀ (a : List S41), (∀ x ∈ a, d < x.f0) → und d (a ++ b) = a ++ und d b
  | [], _ => rfl
  | x :: a, h => by
    have ih := und_all (b := b) a (fun y hy => h y (by simp [hy]))
    unfold und at ih ⊢
    rw [List.cons_append, List.takeWhile_cons, if_pos (by simpa using h x (by simp)), ih, List.cons_append]
theorem selq_mem {q : Int → Bool} {x : S41} : ∀ {l : List S41}, x ∈ selq q l → x ∈ l
  | [], h => by simp [selq] at h
  | p :: ps, h => by
    unfold selq at h
    by_cases k : kp q p ps = true
    · rw [if_pos k] at h
      rcases List.mem_cons.1 h with rfl | h
      · simp
      · simp [selq_mem h]
    · rw [if_neg k] at h
      simp [selq_mem h]
theorem selq_length (q : Int → Bool) : ∀ (l : List S41), (selq q l).length ≤ l.length
  | [] => by simp [selq]
  | p :: ps => by
    have := selq_length q ps
    unfold selq
    split <;> simp <;> omega
theorem selq_app {q : Int → Bool} {d : Int} {b : List S41} (hb : ∀ y ys, b = y :: ys → y.f0 ≤ d) : ∀ (a : List S41), (∀ x ∈ a, d < x.f0) → selq q (a ++ b) = selq q a ++ selq q b
  | [], _ => rfl
  | p :: a, h => by
    have ih := selq_app (q := q) hb a (fun y hy => h y (by simp [hy]))
    have hp := h p (by simp)
    have e : kp q p (a ++ b) = kp q p a := by
      unfold kp
      rw [und_app hb (by omega)]
    rw [List.cons_append, selq, selq, e, ih]
    split <;> simp
theorem leaf_sel {q : Int → Bool} {x : S41} (hx : isL q x = true) : ∀ {l : List S41}, x ∈ l → x ∈ selq q l
  | [], h => by simp at h
  | p :: ps, h => by
    unfold selq
    rcases List.mem_cons.1 h with rfl | h
    · have k : kp q x ps = true := by
        unfold kp
        rw [List.any_cons, hx]
        rfl
      rw [if_pos k]; simp
    · have := leaf_sel hx h
      split <;> simp [this]
theorem kp_iff (q : Int → Bool) (p : S41) (ps : List S41) : kp q p ps = true ↔ isL q p = true ∨ ∃ x ∈ und p.f0 ps, isL q x = true := by
  unfold kp
  rw [List.any_cons, Bool.or_eq_true, List.any_eq_true]
theorem kp_sel {q : Int → Bool} {p : S41} {ps : List S41} (h : kp q p ps = true) : kp q p (selq q ps) = true := by
  rw [kp_iff] at h ⊢
  rcases h with h | ⟨x, hx, h⟩
  · exact .inl h
  · right
    obtain ⟨rest, e, hr⟩ := und_split p.f0 ps
    have hu : ∀ y ∈ und p.f0 ps, p.f0 < y.f0 := fun y hy => (und_mem hy).2
    have e2 : selq q ps = selq q (und p.f0 ps) ++ selq q rest := by
      conv => lhs; rw [e]
      exact selq_app hr _ hu
    refine ⟨x, ?_, h⟩
    rw [e2, und_all _ (fun y hy => hu y (selq_mem hy)), List.mem_append]
    exact .inl (leaf_sel h hx)
theorem selq_sel (q : Int → Bool) : ∀ (l : List S41), selq q (selq q l) = selq q l
  | [] => rfl
  | p :: ps => by
    have ih := selq_sel q ps
    by_cases k : kp q p ps = true
    · rw [selq, if_pos k, selq, if_pos (kp_sel k), ih]
    · rw [selq, if_neg k, ih]
theorem selq_none {q : Int → Bool} : ∀ {l : List S41}, (∀ x ∈ l, isL q x = false) → selq q l = []
  | [], _ => rfl
  | p :: ps, h => by
    have k : ¬ kp q p ps = true := by
      rw [kp_iff]
      rintro (k | ⟨x, hx, k⟩)
      · rw [h p (by simp)] at k; simp at k
      · rw [h x (by simp [(und_mem hx).1])] at k; simp at k
    rw [selq, if_neg k]
    exact selq_none (fun x hx => h x (by simp [hx]))
def PE (t : List S51) (p : S41) : Prop := (0 ≤ p.f3 ∧ p.f3 ≤ 99) ∧ (0 ≤ p.f0 ∧ p.f0 ≤ 5) ∧ (p.f1 = true → p.f2 = 0) ∧ (p.f1 = false → HasC t p.f2)
def Chn (t : List S51) : List S41 → Prop
  | [] => True
  | p :: ps => PE t p ∧ (∀ y ys, ps = y :: ys → y.f0 ≤ p.f0 ∨ (p.f1 = true ∧ y.f0 = p.f0 + 1)) ∧ (p.f1 = true → ∃ y ys, ps = y :: ys ∧ p.f0 < y.f0) ∧ Chn t ps
theorem Chn.right {t : List S51} : ∀ {a b : List S41}, Chn t (a ++ b) → Chn t b
  | [], b, h => h
  | x :: a, b, h => Chn.right (a := a) h.2.2.2
theorem Chn.leaf_und {t : List S51} {p : S41} {ps : List S41} (h : Chn t (p :: ps)) (hf : p.f1 = false) : und p.f0 ps = [] := by
  refine und_stop (d := p.f0) (fun y ys e => ?_) (by omega)
  rcases h.2.1 y ys e with k | ⟨k, _⟩
  · exact k
  · rw [hf] at k; simp at k
theorem Chn.kp_leaf {t : List S51} {q : Int → Bool} {p : S41} {ps : List S41} (h : Chn t (p :: ps)) (hf : p.f1 = false) : kp q p ps = q p.f2 := by
  unfold kp
  rw [h.leaf_und hf]
  simp [isL, hf]
theorem Chn.selq_leaf {t : List S51} {q : Int → Bool} {x : S41} : ∀ {l : List S41}, Chn t l → x ∈ selq q l → x.f1 = false → q x.f2 = true
  | [], _, h, _ => by simp [selq] at h
  | p :: ps, hc, h, hf => by
    unfold selq at h
    by_cases k : kp q p ps = true
    · rw [if_pos k] at h
      rcases List.mem_cons.1 h with rfl | h
      · rwa [hc.kp_leaf hf] at k
      · exact Chn.selq_leaf hc.2.2.2 h hf
    · rw [if_neg k] at h
      exact Chn.selq_leaf hc.2.2.2 h hf
theorem Chn.lvs_sel {t : List S51} {q : Int → Bool} : ∀ {l : List S41}, Chn t l → lvs (selq q l) = (lvs l).filter (fun y => q y.f0)
  | [], _ => rfl
  | p :: ps, hc => by
    have ih := Chn.lvs_sel (q := q) hc.2.2.2
    by_cases hf : p.f1 = true
    · by_cases k : kp q p ps = true
      · rw [selq, if_pos k, lvs, lvs, if_pos hf, if_pos hf, ih]
      · rw [selq, if_neg k, lvs, if_pos hf, ih]
    · have hf' : p.f1 = false := by simpa using hf
      have e := hc.kp_leaf (q := q) hf'
      rw [lvs, if_neg hf]
      by_cases k : q p.f2 = true
      · rw [selq, if_pos (by rw [e]; exact k), lvs, if_neg hf, ih, List.filter_cons, if_pos k]
      · rw [selq, if_neg (by rw [e]; exact k), ih, List.filter_cons, if_neg k]
theorem Chn.selq_chn {t : List S51} {q : Int → Bool} : ∀ (n : Nat) (l : List S41), l.length ≤ n → Chn t l → Chn t (selq q l) ∧ ∀ y ys, selq q l = y :: ys → ∃ z zs, l = z :: zs ∧ y.f0 ≤ z.f0
  | n, [], _, _ => ⟨trivial, fun y ys h => by simp [selq] at h⟩
  | 0, p :: ps, hn, _ => by simp at hn
  | n + 1, p :: ps, hn, hc => by
    have hn' : ps.length ≤ n := by simpa using hn
    obtain ⟨c1, c2⟩ := Chn.selq_chn (q := q) n ps hn' hc.2.2.2
    obtain ⟨rest, e, hr⟩ := und_split p.f0 ps
    have hu : ∀ y ∈ und p.f0 ps, p.f0 < y.f0 := fun y hy => (und_mem hy).2
    have e2 : selq q ps = selq q (und p.f0 ps) ++ selq q rest := by
      conv => lhs; rw [e]
      exact selq_app hr _ hu
    by_cases k : kp q p ps = true
    · rw [selq, if_pos k]
      refine ⟨⟨hc.1, fun y ys h => ?_, fun hf => ?_, c1⟩, fun y ys h => ?_⟩
      · obtain ⟨z, zs, h1, h2⟩ := c2 y ys h
        rcases hc.2.1 z zs h1 with h3 | ⟨h3, h4⟩
        · left; omega
        · by_cases h5 : y.f0 ≤ p.f0
          · exact .inl h5
          · exact .inr ⟨h3, by omega⟩
      · rw [kp_iff] at k
        rcases k with k | ⟨x, hx, k⟩
        · simp [isL, hf] at k
        · have hm := leaf_sel k hx
          cases hs : selq q (und p.f0 ps) with
          | nil => rw [hs] at hm; simp at hm
          | cons y ys =>
            refine ⟨y, ys ++ selq q rest, by rw [e2, hs, List.cons_append], hu y (selq_mem (q := q) (by rw [hs]; simp))⟩
      · obtain ⟨rfl, _⟩ := List.cons.inj h
        exact ⟨p, ps, rfl, by omega⟩
    · rw [selq, if_neg k]
      refine ⟨c1, fun y ys h => ⟨p, ps, rfl, ?_⟩⟩
      have hz : selq q (und p.f0 ps) = [] := selq_none (fun x hx => by
        cases hl : isL q x with
        | false => rfl
        | true => exact absurd ((kp_iff q p ps).2 (.inr ⟨x, hx, hl⟩)) k)
      rw [e2, hz, List.nil_append] at h
      have hcr : Chn t rest := by
        have := hc.2.2.2
        rw [e] at this
        exact this.right
      have hrl : rest.length ≤ n := by
        have := congrArg List.length e
        rw [List.length_append] at this
        omega
      obtain ⟨_, d2⟩ := Chn.selq_chn (q := q) n rest hrl hcr
      obtain ⟨z, zs, h1, h2⟩ := d2 y ys h
      have := hr z zs h1
      omega
theorem GroupOk.chn_drop {t : List S51} {g : List S41} (h : GroupOk t g) : ∀ (m : Nat) (i : Int), ((g.length : Int) - i).toNat = m → 0 ≤ i → i ≤ g.length → Chn t (g.drop i.toNat)
  | 0, i, hm, h0, h1 => by rw [List.drop_eq_nil_of_le (by omega)]; trivial
  | m + 1, i, hm, h0, h1 => by
    have hi : i < (g.length : Int) := by omega
    have ih := GroupOk.chn_drop h m (i + 1) (by omega) (by omega) (by omega)
    obtain ⟨a, b, c⟩ := h.2.2 i h0 hi
    rw [drop_rdSP h0 hi]
    have nx : ∀ y ys, g.drop (i + 1).toNat = y :: ys → i + 1 < g.length ∧ y = rd_T41 g (i + 1) := fun y ys e => by
      have hl : i + 1 < (g.length : Int) := by
        refine Classical.byContradiction fun q => ?_
        rw [List.drop_eq_nil_of_le (by omega)] at e
        simp at e
      rw [drop_rdSP (by omega) hl] at e
      exact ⟨hl, (List.cons.inj e).1.symm⟩
    refine ⟨⟨a.1, a.2.1, fun q => (c.1 q).1, c.2⟩, fun y ys e => ?_, fun q => ?_, ih⟩
    · obtain ⟨hl, rfl⟩ := nx y ys e
      have := (h.2.2 (i + 1) (by omega) hl).2.1 (by omega)
      rw [show i + 1 - 1 = i by omega] at this
      exact this
    · obtain ⟨_, h2, h3⟩ := c.1 q
      exact ⟨rd_T41 g (i + 1), g.drop (i + 1 + 1).toNat, drop_rdSP (by omega) h2, h3⟩
theorem GroupOk.chn {t : List S51} {g : List S41} (h : GroupOk t g) : Chn t g := by
  have := h.chn_drop _ 0 rfl (by omega) (by omega)
  simpa using this
def Top : List S41 → Prop
  | [] => True
  | p :: ps => p.f0 = 0 ∧ ∀ x ∈ ps, x.f0 ≠ 0
theorem GroupOk.top {t : List S51} {g : List S41} (h : GroupOk t g) : Top g := by
  cases g with
  | nil => trivial
  | cons p ps =>
    have a := (h.2.2 0 (by omega) (by simp <;> omega)).1.2.2
    have e0 : rd_T41 (p :: ps) 0 = p := rfl
    rw [e0] at a
    refine ⟨a.2 rfl, fun x hx => ?_⟩
    obtain ⟨i, hi, rfl⟩ := List.getElem_of_mem hx
    have b := (h.2.2 ((i + 1 : Nat) : Int) (by omega) (by simp <;> omega)).1.2.2
    have e1 : rd_T41 (p :: ps) ((i + 1 : Nat) : Int) = ps[i] := by
      rw [rdSP_at (by omega) (by simp <;> omega)]
      simp
    rw [e1] at b
    intro q
    have := b.1 q
    omega
theorem Chn.ok {t : List S51} {g : List S41} (hv : ValidT t) (hc : Chn t g) (ht : Top g) (hl : (1 ≤ (g.length : Int) ∧ (g.length : Int) ≤ 16)) : GroupOk t g := by
  have at_ : ∀ i : Int, 0 ≤ i → i < g.length → Chn t (rd_T41 g i :: g.drop (i + 1).toNat) := fun i h0 hi => by
    rw [← drop_rdSP h0 hi]
    have := hc
    rw [← List.take_append_drop i.toNat g] at this
    exact this.right
  refine ⟨hv, hl, fun i h0 hi => ?_⟩
  obtain ⟨pe, nx, gr, _⟩ := at_ i h0 hi
  refine ⟨⟨pe.1, pe.2.1, ?_⟩, fun hp => ?_, fun q => ?_, pe.2.2.2⟩
  · cases g with
    | nil => exact absurd hi (by have : (([] : List S41).length : Int) = 0 := rfl; omega)
    | cons p ps =>
      constructor
      · intro q
        refine Classical.byContradiction fun hne => ?_
        have e1 : rd_T41 (p :: ps) i ∈ ps := by
          rw [rdSP_at h0 hi]
          obtain ⟨j, hj⟩ : ∃ j : Nat, i.toNat = j + 1 := ⟨i.toNat - 1, by omega⟩
          have hjl : j < ps.length := by simp at hi; omega
          have : (p :: ps)[i.toNat]'(by omega) = ps[j] := by simp [hj]
          rw [this]
          exact List.getElem_mem _
        exact ht.2 _ e1 q
      · rintro rfl
        exact ht.1
  · obtain ⟨_, nx', _, _⟩ := at_ (i - 1) (by omega) (by omega)
    rw [show i - 1 + 1 = i by omega] at nx'
    exact nx' (rd_T41 g i) _ (drop_rdSP h0 hi)
  · obtain ⟨y, ys, e, hy⟩ := gr q
    have hl' : i + 1 < (g.length : Int) := by
      refine Classical.byContradiction fun k => ?_
      rw [List.drop_eq_nil_of_le (by omega)] at e
      simp at e
    rw [drop_rdSP (by omega) hl'] at e
    obtain ⟨rfl, _⟩ := List.cons.inj e
    exact ⟨pe.2.2.1 q, hl', hy⟩
theorem GroupOk.selq_ok {t : List S51} {g : List S41} {q : Int → Bool} (h : GroupOk t g) : selq q g = [] ∨ GroupOk t (selq q g) := by
  by_cases e : selq q g = []
  · exact .inl e
  · right
    have hc := (Chn.selq_chn (q := q) g.length g (Nat.le_refl _) h.chn).1
    have hl := selq_length q g
    have hl1 : 1 ≤ (selq q g).length := by
      have := List.length_pos_iff.2 e
      omega
    refine hc.ok h.1 ?_ ⟨by omega, by have := h.2.1; omega⟩
    have ht := h.top
    cases g with
    | nil => exact absurd rfl e
    | cons p ps =>
      have hall : ∀ x ∈ ps, p.f0 < x.f0 := fun x hx => by
        have h1 := ht.2 x hx
        have h2 := ht.1
        obtain ⟨i, hi, rfl⟩ := List.getElem_of_mem hx
        have b := (h.2.2 ((i + 1 : Nat) : Int) (by omega) (by simp <;> omega)).1.2.1.1
        have e1 : rd_T41 (p :: ps) ((i + 1 : Nat) : Int) = ps[i] := by
          rw [rdSP_at (by omega) (by simp <;> omega)]
          simp
        rw [e1] at b
        omega
      have hu : und p.f0 ps = ps := by
        have := und_all (d := p.f0) (b := []) ps hall
        rw [List.append_nil] at this
        rw [this]
        simp [und]
      have k : kp q p ps = true := by
        refine Classical.byContradiction fun k => e ?_
        refine selq_none (fun x hx => ?_)
        cases hlx : isL q x with
        | false => rfl
        | true =>
          refine absurd ((kp_iff q p ps).2 ?_) k
          rcases List.mem_cons.1 hx with rfl | hx
          · exact .inl hlx
          · exact .inr ⟨x, by rw [hu]; exact hx, hlx⟩
      rw [selq, if_pos k]
      exact ⟨ht.1, fun x hx => ht.2 x (selq_mem hx)⟩
theorem GroupOk.selq_other {t : List S51} {g : List S41} {q : Int → Bool} (h : GroupOk t g) : selq (fun c => !q c) (selq q g) = [] :=
  selq_none (fun x hx => by
    cases hf : x.f1 with
    | true => simp [isL, hf]
    | false =>
      have := h.chn.selq_leaf hx hf
      simp [isL, hf, this])
end Go.Proofs.Ytnacfppmlldbcaa.Pure
