/- The plain proof: what the printed functions tell. Conditions: none beyond the statement's own. -/
import Derived.Test.YtnacfppmlldbcaaCFnTopSplitWWords
import Derived.WalkKit
import Derived.ProofKit
import Derived.OpenShut
import Derived.ChangeSame
import Derived.Deep.Slices
import Derived.DataElems
namespace Go.Proofs.Ytnacfppmlldbcaa.Open
open Go.RowKit Go.ChangeShapes Go.WideShapes Go.ChangeAt Go.Deep Go.Proofs.YtnacfppmlldbcaaW.PrintWords
set_option linter.unusedVariables false
set_option linter.unusedSimpArgs false
variable {H : Type} {enc : TypeId × Value → H} {P : Program} {W : World}
def Opens {H : Type} (enc : TypeId × Value → H) (P : Program) (W : World) (t : TypeId) {α : Type} (d : Kd α) (ok : α → Prop) : Prop :=
  ∀ (base : Nat) (spare : Nat → Bool) (held : Bool) (fuel : Nat) (cs : List Value) (x : DataW H × List MemPlace), DataW.trod enc P W base spare held fuel t cs = some x → ∃ v : α, d.K W v cs ∧ ok v
theorem Opens.int {t : TypeId} {k : IntKind} (ht : P.underlying t = some (.int k)) : Opens enc P W t (Kd.int k) (fun n => (Lit.int k n).wf = true) := by
  intro base spare held fuel cs x h
  obtain ⟨n, rfl, _, hw⟩ := DataW.trod_int ht h
  exact ⟨n, rfl, hw⟩
theorem Opens.string {t : TypeId} (ht : P.underlying t = some .string) : Opens enc P W t Kd.string (fun s => s.size ≤ maxLen) := by
  intro base spare held fuel cs x h
  obtain ⟨n, rfl, _, hw⟩ := DataW.trod_string ht h
  exact ⟨n, rfl, hw⟩
theorem Opens.bool {t : TypeId} (ht : P.underlying t = some .bool) : Opens enc P W t Kd.bool (fun _ => True) := by
  intro base spare held fuel cs x h
  obtain ⟨n, rfl, _⟩ := DataW.trod_bool ht h
  exact ⟨n, rfl, trivial⟩
theorem Opens.iso {α β : Type} {t : TypeId} {d : Kd α} {ok : α → Prop} (f : β → α) (g : α → β) (hfg : ∀ x, f (g x) = x) (h : Opens enc P W t d ok) : Opens enc P W t (Kd.iso d f) (fun y => ok (f y)) := by
  intro base spare held fuel cs x hx
  obtain ⟨v, h1, h2⟩ := h base spare held fuel cs x hx
  exact ⟨g v, by show d.K W (f (g v)) cs; rw [hfg]; exact h1, by show ok (f (g v)); rw [hfg]; exact h2⟩
theorem Opens.struct2 {α β : Type} {t : TypeId} {f0 f1 : Field} {d0 : Kd α} {d1 : Kd β} {ok0 : α → Prop} {ok1 : β → Prop} (ht : P.underlying t = some (.struct #[f0, f1]))
    (h0 : Opens enc P W f0.type d0 ok0) (h1 : Opens enc P W f1.type d1 ok1) (o0 : f0.offset = 0) (o1 : f1.offset = P.cellsOf f0.type) (hc : P.cellsOf t = P.cellsOf f0.type + P.cellsOf f1.type) :
    Opens enc P W t (Kd.pair d0 d1) (fun x => ok0 x.1 ∧ ok1 x.2) := by
  intro base spare held fuel cs x h
  obtain ⟨y0, y1, n, _, hl, k0, k1⟩ := trod_struct2 ht h
  obtain ⟨v0, a0, b0⟩ := h0 _ _ _ _ _ _ k0
  obtain ⟨v1, a1, b1⟩ := h1 _ _ _ _ _ _ k1
  refine ⟨(v0, v1), ⟨_, _, ?_, a0, a1⟩, b0, b1⟩
  rw [o0, o1, List.drop_zero, List.take_of_length_le (l := cs.drop _) (by simp; omega), List.take_append_drop]
theorem Opens.struct4 {α β γ δ : Type} {t : TypeId} {f0 f1 f2 f3 : Field} {d0 : Kd α} {d1 : Kd β} {d2 : Kd γ} {d3 : Kd δ} {ok0 : α → Prop} {ok1 : β → Prop} {ok2 : γ → Prop} {ok3 : δ → Prop} (ht : P.underlying t = some (.struct #[f0, f1, f2, f3]))
    (h0 : Opens enc P W f0.type d0 ok0) (h1 : Opens enc P W f1.type d1 ok1) (h2 : Opens enc P W f2.type d2 ok2) (h3 : Opens enc P W f3.type d3 ok3) (o0 : f0.offset = 0) (o1 : f1.offset = P.cellsOf f0.type) (o2 : f2.offset = P.cellsOf f0.type + P.cellsOf f1.type)
    (o3 : f3.offset = P.cellsOf f0.type + P.cellsOf f1.type + P.cellsOf f2.type) (hc : P.cellsOf t = P.cellsOf f0.type + P.cellsOf f1.type + P.cellsOf f2.type + P.cellsOf f3.type) :
    Opens enc P W t (Kd.pair d0 (Kd.pair d1 (Kd.pair d2 d3))) (fun x => ok0 x.1 ∧ (ok1 x.2.1 ∧ (ok2 x.2.2.1 ∧ ok3 x.2.2.2))) := by
  intro base spare held fuel cs x h
  obtain ⟨xs, n, _, rfl, hl, hlen, hf⟩ := DataW.trod_struct ht h
  match xs, hlen with
  | [y0, y1, y2, y3], _ =>
    obtain ⟨v0, a0, b0⟩ := h0 _ _ _ _ _ _ (by simpa using hf 0 f0 rfl)
    obtain ⟨v1, a1, b1⟩ := h1 _ _ _ _ _ _ (by simpa using hf 1 f1 rfl)
    obtain ⟨v2, a2, b2⟩ := h2 _ _ _ _ _ _ (by simpa using hf 2 f2 rfl)
    obtain ⟨v3, a3, b3⟩ := h3 _ _ _ _ _ _ (by simpa using hf 3 f3 rfl)
    refine ⟨(v0, v1, v2, v3), ⟨_, _, ?_, a0, ⟨_, _, rfl, a1, ⟨_, _, rfl, a2, a3⟩⟩⟩, b0, b1, b2, b3⟩
    rw [o0, o1, o2, o3, List.drop_zero, List.take_of_length_le (l := cs.drop (P.cellsOf f0.type + P.cellsOf f1.type + P.cellsOf f2.type)) (by simp; omega), ← List.drop_drop (i := P.cellsOf f2.type), List.take_append_drop, ← List.drop_drop, List.take_append_drop, List.take_append_drop]
theorem open_row {α : Type} {t e : TypeId} {d : Kd α} {ok : α → Prop} (ht : P.underlying t = some (.slice e)) (he : Opens enc P W e d ok) (hsz : P.cellsOf e = d.sz) {base : Nat} {spare : Nat → Bool} {held : Bool} {fuel : Nat} {cs : List Value} {x : DataW H × List MemPlace}
    (h : DataW.trod enc P W base spare held fuel t cs = some x) : ∃ (A : Option Addr) (l : List α) (c : Nat), cs = [.slice A l.length c] ∧ d.C W A l.length l ∧ l.length ≤ c ∧ c ≤ maxLen ∧ ∀ y ∈ l, ok y := by
  rcases open_slice ht h with ⟨rfl, _⟩ | ⟨a, len, cap, m, n, D, Pl, rfl, hb, hl, hm, hmm, _, hx⟩
  · refine ⟨none, [], 0, rfl, ⟨rfl, by simp, fun h => by simp at h⟩, Nat.le_refl _, by simp [maxLen], by simp⟩
  · have hlm : len ≤ m := by rw [hmm]; split <;> omega
    have each : ∀ i, i < len → ∃ v : α, ok v ∧ ∃ cs', cs'.length = d.sz ∧ d.K W v cs' ∧ ∀ j u, cs'[j]? = some u → W.cell? (a.add (i * d.sz + j)) = some u := by
      intro i hi
      obtain ⟨cs', h1, h2⟩ := hx i (by omega)
      obtain ⟨v, k1, k2⟩ := he _ _ _ _ _ _ h2
      obtain ⟨_, hlen, hcell⟩ := World.cells?_some h1
      refine ⟨v, k2, cs', by rw [hlen, hsz], k1, fun j u hj => ?_⟩
      obtain ⟨hj1, _⟩ := List.getElem?_eq_some_iff.1 hj
      have := hcell j (by omega)
      rw [hj] at this
      rw [← this, hsz, Addr.add_add]
    refine ⟨some a, List.ofFn (fun i : Fin len => Classical.choose (each i.1 i.2)), cap, by simp, ⟨by simp, ?_, fun _ => ⟨a, rfl, fun j p hj => ?_⟩⟩, by simpa using hl, hm, fun y hy => ?_⟩
    · simp only [List.length_ofFn]
      have : maxLen = 9223372036854775807 := by decide
      omega
    · obtain ⟨hj1, hj2⟩ := List.getElem?_eq_some_iff.1 hj
      rw [List.length_ofFn] at hj1
      rw [List.getElem_ofFn] at hj2
      subst hj2
      obtain ⟨_, cs', c1, c2, c3⟩ := Classical.choose_spec (each j hj1)
      exact ⟨cs', c1, c2, c3⟩
    · obtain ⟨i, rfl⟩ := List.mem_ofFn.1 hy
      exact (Classical.choose_spec (each i.1 i.2)).1
theorem open_arg {α : Type} {t e : TypeId} {d : Kd α} {ok : α → Prop} (ht : P.underlying t = some (.slice e)) (he : Opens enc P W e d ok) (hsz : P.cellsOf e = d.sz) {base : Nat} {spare : Nat → Bool} {held : Bool} {a : Option Addr} {len cap : Nat} {dd : DataW H} {ps : List MemPlace}
    (h : DataW.Trod enc P W base spare held t (.slice a len cap) dd ps) : ∃ l : List α, len = l.length ∧ d.C W a l.length l ∧ l.length ≤ cap ∧ l.length ≤ maxLen ∧ ∀ y ∈ l, ok y := by
  obtain ⟨fuel, hf⟩ := h
  obtain ⟨A, l, c, hcs, h1, h2, h3, h4⟩ := open_row ht he hsz hf
  simp [Value.cells] at hcs
  obtain ⟨rfl, rfl, rfl⟩ := hcs
  exact ⟨l, rfl, h1, h2, by omega, h4⟩
theorem open_box {α : Type} {r : Reach} {b0 : Nat} {t e : TypeId} {f0 : Field} {d : Kd α} {ok : α → Prop} (hs : P.underlying t = some (.struct #[f0])) (ht : P.underlying f0.type = some (.slice e)) (he : Opens enc P W e d ok) (hsz : P.cellsOf e = d.sz)
    (o0 : f0.offset = 0) (hc : P.cellsOf t = 1) (hc0 : P.cellsOf f0.type = 1) {base : Nat} {spare : Nat → Bool} {held : Bool} {v : Value} {dd : DataW H} {ps : List MemPlace}
    (hv : Value.okWide P W r b0 t v) (h : DataW.Trod enc P W base spare held t v dd ps) : ∃ (A : Option Addr) (l : List α) (c : Nat), v = .agg #[.slice A l.length c] ∧ d.C W A l.length l ∧ l.length ≤ c ∧ l.length ≤ maxLen ∧ ∀ y ∈ l, ok y := by
  obtain ⟨cs, rfl, hsize⟩ := okWide_struct hs hv
  obtain ⟨fuel, hf⟩ := h
  obtain ⟨y0, n, _, hl, k0⟩ := trod_struct1 hs hf
  rw [o0, List.drop_zero, hc0, List.take_of_length_le (by rw [hl, hc]; omega)] at k0
  obtain ⟨A, l, c, hcs, h1, h2, h3, h4⟩ := open_row ht he hsz k0
  refine ⟨A, l, c, ?_, h1, h2, by omega, h4⟩
  simp [Value.cells] at hcs
  rw [← hcs]
end Go.Proofs.Ytnacfppmlldbcaa.Open
