/- The plain proof: what the printed functions tell. Conditions: none beyond the statement's own. -/
import Derived.Test.YtdjdfflpdngohaaCFnInnerTraceWWords
import Derived.Laws.BitsLemmas
import Derived.Test.YtdjdfflpdngohaaCFnInnerTracePTx7
import Derived.Test.YtdjdfflpdngohaaCFnInnerTracePTx6
namespace Go.Proofs.Ytdjdfflpdngohaa.Pure
open Go.RowKit Go.Proofs.Ytdjdfflpdngohaa.PT Go.Proofs.YtdjdfflpdngohaaW.PrintWords
set_option linter.unusedVariables false
set_option linter.unusedSimpArgs false
def Evs {α : Type} (g : Nat → Option α) (P : α → Prop) : Prop := ∃ a, Ev g a ∧ P a
theorem Evs.ret {α : Type} {P : α → Prop} {a : α} (h : P a) : Evs (fun _ => some a) P := ⟨a, Ev.now a, h⟩
theorem Evs.bind {α β : Type} {g : Nat → Option α} {f : Nat → α → Option β} {P : α → Prop} {Q : β → Prop} (h : Evs g P) (k : ∀ a, P a → Evs (fun n => f n a) Q) :
    Evs (fun n => (g n).bind (f n)) Q := by
  obtain ⟨a, h1, h2⟩ := h
  obtain ⟨b, k1, k2⟩ := k a h2
  exact ⟨b, Ev.bind h1 k1, k2⟩
theorem Evs.ite {α : Type} {c : Prop} [Decidable c] {A B : Nat → Option α} {P : α → Prop} (h : c → Evs A P) (k : ¬ c → Evs B P) : Evs (fun n => if c then A n else B n) P := by
  by_cases hc : c
  · simpa [hc] using h hc
  · simpa [hc] using k hc
theorem Evs.yes {α : Type} {c : Prop} [Decidable c] {A B : Nat → Option α} {P : α → Prop} (hc : c) (h : Evs A P) : Evs (fun n => if c then A n else B n) P := by
  simpa [hc] using h
theorem Evs.no {α : Type} {c : Prop} [Decidable c] {A B : Nat → Option α} {P : α → Prop} (hc : ¬ c) (h : Evs B P) : Evs (fun n => if c then A n else B n) P := by
  simpa [hc] using h
theorem Evs.step {α : Type} {g f : Nat → Option α} {P : α → Prop} (h : ∀ k, g (k + 1) = f k) (k : Evs f P) : Evs g P := by
  obtain ⟨a, k1, k2⟩ := k
  exact ⟨a, Ev.step h k1, k2⟩
theorem Evs.congr {α : Type} {g f : Nat → Option α} {P : α → Prop} (h : ∀ k, g k = f k) (k : Evs f P) : Evs g P := by
  obtain ⟨a, k1, k2⟩ := k
  exact ⟨a, Ev.congr h k1, k2⟩
theorem Evs.imp {α : Type} {g : Nat → Option α} {P Q : α → Prop} (h : Evs g P) (k : ∀ a, P a → Q a) : Evs g Q := by
  obtain ⟨a, h1, h2⟩ := h
  exact ⟨a, h1, k a h2⟩
theorem Evs.const {α : Type} {g : Option α} {P : α → Prop} {a : α} (h : g = some a) (k : P a) : Evs (fun _ => g) P := ⟨a, ⟨0, fun _ _ => h⟩, k⟩
theorem Evs.rounds {α : Type} {g : Nat → Option α} {P : α → Prop} (h : Evs g P) : ∃ k a, g k = some a ∧ P a := by
  obtain ⟨a, ⟨K, h1⟩, h2⟩ := h
  exact ⟨K, a, h1 K (Nat.le_refl _), h2⟩
theorem Evs.done {α : Type} {g : Nat → Option α} {a : α} (h : Evs g (fun r => r = a)) : ∃ k, g k = some a := by
  obtain ⟨k, b, h1, rfl⟩ := h.rounds
  exact ⟨k, h1⟩
theorem w64 {x : Int} (h : -9223372036854775808 ≤ x) (k : x < 9223372036854775808) : wrap64 x = x := by unfold wrap64; omega
theorem getD_nat {α : Type} (d : α) (xs : List α) (i : Nat) (h : i < xs.length) : xs.getD i d = xs[i] := by
  simp [List.getD_eq_getElem?_getD, List.getElem?_eq_getElem h]
theorem rd_mem {xs : List Int} {i : Int} (h0 : 0 ≤ i) (h : i < (xs.length : Int)) : rd xs i ∈ xs := by
  unfold rd; rw [getD_nat _ _ _ (by omega)]; exact List.getElem_mem _
theorem rdOf_mem {α : Type} {d : α} {xs : List α} {i : Int} (h0 : 0 ≤ i) (h : i < (xs.length : Int)) : rdOf d xs i ∈ xs := by
  unfold rdOf; rw [getD_nat _ _ _ (by omega)]; exact List.getElem_mem _
theorem xor_nonneg {a b : Int} (ha : 0 ≤ a) (ha' : a < 2 ^ 62) (hb : 0 ≤ b) (hb' : b < 2 ^ 62) : 0 ≤ bits .xor .i64 a b := by
  obtain ⟨a, rfl⟩ := Int.eq_ofNat_of_zero_le ha
  obtain ⟨b, rfl⟩ := Int.eq_ofNat_of_zero_le hb
  have ha1 : a < 2 ^ 62 := by exact_mod_cast ha'
  have hb1 : b < 2 ^ 62 := by exact_mod_cast hb'
  have h1 : a % 2 ^ 64 = a := Nat.mod_eq_of_lt (by omega)
  have h2 : b % 2 ^ 64 = b := Nat.mod_eq_of_lt (by omega)
  have h3 : a ^^^ b < 2 ^ 62 := Nat.xor_lt_two_pow ha1 hb1
  have h4 : bits .xor .i64 (a : Int) (b : Int) = IntKind.i64.wrap ((a ^^^ b : Nat) : Int) := by
    have h5 : (BitVec.ofNat 64 a ^^^ BitVec.ofNat 64 b).toNat = a ^^^ b := by rw [BitVec.toNat_xor, BitVec.toNat_ofNat, BitVec.toNat_ofNat, h1, h2]
    simp only [bits, IntKind.bits, BitVec.ofInt_natCast]
    exact congrArg (fun n : Nat => IntKind.i64.wrap (n : Int)) h5
  rw [h4, IntKind.wrap_i64]
  omega
def Bytes (xs : List Int) : Prop := ∀ x ∈ xs, 0 ≤ x ∧ x ≤ 255
theorem pick_j0 (n : Int) (b : Bool) (s : List Int) (c : Int) (hs : Bytes s) (hc : 1 ≤ c) (hc' : c ≤ 1000000) (hb : b = true ∨ (1 ≤ n ∧ s ≠ [])) :
    Evs (fun k => spec_reader_pick.j0 k n b s c) (fun r => r.2 = c ∧ (b = true → r.1 = 0) ∧ (1 ≤ n → 0 ≤ r.1 ∧ r.1 < n)) := by
  refine Evs.step (fun k => by rw [spec_reader_pick.j0]) ?_
  refine Evs.ite (fun h => Evs.ret ?_) (fun h => ?_)
  · exact ⟨rfl, fun _ => rfl, fun _ => ⟨by omega, by omega⟩⟩
  · obtain ⟨hn, hne⟩ := hb.resolve_left h
    have hl : 1 ≤ (s.length : Int) := by
      have := List.length_pos_iff.2 hne
      omega
    have hw : wrap64 (c - 1) = c - 1 := w64 (by omega) (by omega)
    have hrd : ∀ i : Int, 0 ≤ i → i < s.length → 0 ≤ rd s i ∧ rd s i ≤ 255 := fun i h0 h1 => hs _ (rd_mem h0 h1)
    simp only [hw]
    refine Evs.ite (fun h1 => ?_) (fun h1 => ?_)
    · refine Evs.yes (by omega) (Evs.no (by omega) (Evs.ret ⟨rfl, fun hb => absurd hb h, fun _ => ?_⟩))
      have := hrd (c - 1) (by omega) h1
      rw [w64 (by omega) (by omega)]
      exact ⟨Int.tmod_nonneg _ this.1, Int.tmod_lt_of_pos _ (by omega)⟩
    · have m1 : 0 ≤ Int.tmod (c - 1) (s.length : Int) := Int.tmod_nonneg _ (by omega)
      have m2 : Int.tmod (c - 1) (s.length : Int) < s.length := Int.tmod_lt_of_pos _ (by omega)
      have e1 : wrap64 ((c - 1) * 7) = (c - 1) * 7 := w64 (by omega) (by omega)
      have e2 : wrap64 ((c - 1) * 7 + 3) = (c - 1) * 7 + 3 := w64 (by omega) (by omega)
      have m3 : 0 ≤ Int.tmod ((c - 1) * 7 + 3) (s.length : Int) := Int.tmod_nonneg _ (by omega)
      have m4 : Int.tmod ((c - 1) * 7 + 3) (s.length : Int) < s.length := Int.tmod_lt_of_pos _ (by omega)
      simp only [e1, e2]
      refine Evs.no (by omega) (Evs.yes m1 (Evs.yes m2 (Evs.yes m3 (Evs.yes m4 (Evs.no (by omega) (Evs.ret ⟨rfl, fun hb => absurd hb h, fun _ => ?_⟩))))))
      have d1 : 0 ≤ Int.tdiv (c - 1) (s.length : Int) := Int.tdiv_nonneg (by omega) (by omega)
      have d2 : Int.tdiv (c - 1) (s.length : Int) ≤ c - 1 := Int.tdiv_le_self _ (by omega)
      generalize hA : rd s (Int.tmod (c - 1) (s.length : Int)) = A
      generalize hB : rd s (Int.tmod ((c - 1) * 7 + 3) (s.length : Int)) = B
      have r1 := hrd _ m1 m2
      have r2 := hrd _ m3 m4
      rw [hA] at r1
      rw [hB] at r2
      generalize Int.tdiv (c - 1) (s.length : Int) = D at d1 d2 ⊢
      rw [w64 (x := A) (by omega) (by omega), w64 (x := B) (by omega) (by omega), w64 (x := A * 131) (by omega) (by omega), w64 (x := B * 1117) (by omega) (by omega),
        w64 (x := (c - 1) * 29) (by omega) (by omega), w64 (x := D) (by omega) (by omega), w64 (x := D * 53) (by omega) (by omega), w64 (x := A * 131 + B * 1117) (by omega) (by omega),
        w64 (x := A * 131 + B * 1117 + (c - 1) * 29) (by omega) (by omega), w64 (x := A * 131 + B * 1117 + (c - 1) * 29 + D * 53) (by omega) (by omega)]
      generalize hX : A * 131 + B * 1117 + (c - 1) * 29 + D * 53 = X
      have x1 : 0 ≤ X := by omega
      have x2 : X < 2 ^ 40 := by omega
      have y1 : 0 ≤ Int.tdiv X 64 := Int.tdiv_nonneg x1 (by omega)
      have y2 : Int.tdiv X 64 ≤ X := Int.tdiv_le_self _ x1
      rw [w64 (x := Int.tdiv X 64) (by omega) (by omega)]
      exact ⟨Int.tmod_nonneg _ (xor_nonneg x1 (by omega) y1 (by omega)), Int.tmod_lt_of_pos _ (by omega)⟩
theorem pick_ev (s : List Int) (c n : Int) (hs : Bytes s) (hc : 0 ≤ c) (hc' : c < 1000000) :
    Evs (fun k => spec_reader_pick.f k s c n) (fun r => r.2 = c + 1 ∧ (n < 1 → r.1 = 0) ∧ (1 ≤ n → 0 ≤ r.1 ∧ r.1 < n)) := by
  unfold spec_reader_pick.f
  rw [w64 (x := c + 1) (by omega) (by omega)]
  refine Evs.ite (fun h => ?_) (fun h => ?_)
  · exact (pick_j0 n true s (c + 1) hs (by omega) (by omega) (.inl rfl)).imp fun r ⟨h1, h2, h3⟩ => ⟨h1, fun _ => h2 rfl, fun _ => by omega⟩
  · refine (pick_j0 n _ s (c + 1) hs (by omega) (by omega) ?_).imp fun r ⟨h1, h2, h3⟩ => ⟨h1, fun _ => by omega, h3⟩
    by_cases hl : s = []
    · exact .inl (by simp [hl])
    · exact .inr ⟨by omega, hl⟩
theorem one_ev (s : List Int) (c : Int) (l : List Int) (hs : Bytes s) (hc : 0 ≤ c) (hc' : c < 1000000) (hl : l ≠ []) :
    Evs (fun k => spec_reader_one.f k s c l) (fun r => r.2 = c + 1 ∧ r.1 ∈ l) := by
  have hl1 : 1 ≤ (l.length : Int) := by
    have := List.length_pos_iff.2 hl
    omega
  unfold spec_reader_one.f
  refine Evs.bind (pick_ev s c l.length hs hc hc') (fun r ⟨h1, _, h2⟩ => ?_)
  have h2 := h2 hl1
  exact Evs.yes h2.1 (Evs.yes h2.2 (Evs.ret ⟨h1, rd_mem h2.1 h2.2⟩))
theorem of_ev (s : List Int) (c : Int) (l : List ByteArray) (hs : Bytes s) (hc : 0 ≤ c) (hc' : c < 1000000) (hl : l ≠ []) :
    Evs (fun k => spec_reader_of.f k s c l) (fun r => r.2 = c + 1 ∧ r.1 ∈ l) := by
  have hl1 : 1 ≤ (l.length : Int) := by
    have := List.length_pos_iff.2 hl
    omega
  unfold spec_reader_of.f
  refine Evs.bind (pick_ev s c l.length hs hc hc') (fun r ⟨h1, _, h2⟩ => ?_)
  have h2 := h2 hl1
  exact Evs.yes h2.1 (Evs.yes h2.2 (Evs.ret ⟨h1, rdOf_mem h2.1 h2.2⟩))
theorem newReader_ev (l : List Int) (h : Bytes l) : ∃ r, spec_newReader.f l = some r ∧ Bytes r.1 ∧ r.2 = 0 := by
  unfold spec_newReader.f
  split
  · rw [if_pos (by omega)]
    exact ⟨_, rfl, fun x hx => h x (List.mem_of_mem_take hx), rfl⟩
  · exact ⟨_, rfl, h, rfl⟩
theorem bytes_of_wf {l : List Int} (h : ∀ x ∈ l, (Lit.int .u8 x).wf = true) : Bytes l := fun x hx => by
  have := h x hx
  simp [Lit.wf, IntKind.min, IntKind.max, IntKind.signed, IntKind.bits] at this
  omega
end Go.Proofs.Ytdjdfflpdngohaa.Pure
