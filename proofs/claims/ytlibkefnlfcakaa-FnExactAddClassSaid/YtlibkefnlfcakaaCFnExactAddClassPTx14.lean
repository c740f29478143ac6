/- Words and walks that the law's proof uses: each printed function's contract. Conditions: none beyond the statement's own. -/
import Derived.Test.YtlibkefnlfcakaaCFnExactAddClassPTx0
import Derived.Test.YtlibkefnlfcakaaCFnExactAddClassPTx5
import Derived.Test.YtlibkefnlfcakaaCFnExactAddClassPTx8
import Derived.Test.YtlibkefnlfcakaaCFnExactAddClassPTx9
namespace Go.Proofs.Ytlibkefnlfcakaa.PT
open Go.RowKit Go.Proofs.YtlibkefnlfcakaaW.PrintWords Go.Proofs.YtlibkefnlfcakaaW.PrintLast Go.Proofs.YtlibkefnlfcakaaW.PrintMore
attribute [local go_sem] max2_int min2_int max_two min_two max_three min_three max_four min_four   -- for this text's walks alone
set_option linter.unusedVariables false
set_option linter.unusedSimpArgs false
def impl_Tree_first.f (k : Nat) (l0_0 : List (S62)) (l1 : List Int) (a2 : Int) : Option Int := idxO (fun b => impl_Tree_is.f k l0_0 a2 b) l1 0
set_option maxHeartbeats 8000000 in
set_option maxRecDepth 100000 in
theorem impl_Tree_first.clo (k : Nat) (A0 : Option Addr) (c0 : Nat) (l0 : List (S62)) (a x : Int) (b : Bool) (B B2 : Nat) (W : World) (hr : Kd.C k62 W A0 l0.length l0) (hc : l0.length ≤ c0) (hcell : W.cell? ⟨B, 0, none⟩ = some (.slice A0 l0.length c0)) (hcell2 : W.cell? ⟨B2, 0, none⟩ = some (.int .i64 a)) (h : impl_Tree_is.f k l0 a x = some b) :
    Calls Try.prog 81 (#[.int .i64 x] ++ #[.pointer (some ⟨B, 0, none⟩), .pointer (some ⟨B2, 0, none⟩)]) W fun e W' => e = .returned (.bool b) ∧ Below W.heap.size W W' := by
  have hu25 := Try.underlying25
  have HR := Aside0.mk hr
  have HC := Aside0.mk hc
  have H := Aside0.mk h
  clear hr hc h
  show Calls Try.prog 81 #[.int .i64 x, .pointer (some ⟨B, 0, none⟩), .pointer (some ⟨B2, 0, none⟩)] W _
  go_enter Try.func81, Try.ntmps81
  go_wp2_with (go_at_call 43; refine (impl_Tree_is.calls k A0 c0 l0 a x b _ HR.out HC.out H.out).mono ?_; rintro e w' ⟨rfl, hb⟩)
  go_ret
  exact ⟨rfl, hb⟩
set_option maxHeartbeats 8000000 in
set_option maxRecDepth 100000 in
theorem impl_Tree_first.calls (k : Nat) (A0_0 : Option Addr) (c0_0 : Nat) (l0_0 : List (S62)) (A1 : Option Addr) (c1 : Nat) (l1 : List Int) (a2 : Int) (r : Int) (w : World) (hr0_0 : Kd.C k62 w A0_0 l0_0.length l0_0) (hc0_0 : l0_0.length ≤ c0_0) (hr1 : Kd.C (Kd.int .i64) w A1 l1.length l1) (hc1 : l1.length ≤ c1) (h : impl_Tree_first.f k l0_0 l1 a2 = some r) :
    Calls Try.prog 55 #[.agg #[.slice A0_0 l0_0.length c0_0], .slice A1 l1.length c1, .int .i64 a2] w fun e w' => e = .returned (.int .i64 r) ∧ Below w.heap.size w w' := by
  have hu25 := Try.underlying25
  have HR0 := Aside0.mk hr0_0
  have HC0 := Aside0.mk hc0_0
  have HR1 := Aside0.mk hr1
  have HC1 := Aside0.mk hc1
  have H := Aside0.mk h
  clear hr0_0 hc0_0 hr1 hc1 h
  have HB := Aside0.mk (below_alloc (below_alloc (Below.refl w.heap.size w) (.cells #[.slice A0_0 l0_0.length c0_0] 25)) (.cells #[.int .i64 a2] 3))
  have HK := Aside0.mk (show ((w.alloc (.cells #[.slice A0_0 l0_0.length c0_0] 25)).alloc (.cells #[.int .i64 a2] 3)).cell? ⟨w.heap.size, 0, none⟩ = some (.slice A0_0 l0_0.length c0_0) from cell_old _ _ (cell_new w _ _))
  have HK2 := Aside0.mk (show ((w.alloc (.cells #[.slice A0_0 l0_0.length c0_0] 25)).alloc (.cells #[.int .i64 a2] 3)).cell? ⟨w.heap.size + 1, 0, none⟩ = some (.int .i64 a2) from cell_new1 w _ _ _)
  have eg : ∀ args w, (callFunc 81 args).run Try.prog w = .ok (.enter 81 args) w := enters_of Try.func81 (by kernel_rfl) rfl
  go_enter Try.func55, Try.ntmps55
  go_wp2_with (go_at_call 80; refine (slices_IndexFunc_int_int.calls 81 #[.pointer (some ⟨w.heap.size, 0, none⟩), .pointer (some ⟨w.heap.size + 1, 0, none⟩)] eg _ A1 c1 l1 r _ (Kd.C_alloc (Kd.C_alloc HR1.out _) _) HC1.out ?hp H.out).mono ?_; (case hp => exact fun W x b hbW hx => impl_Tree_first.clo k A0_0 c0_0 l0_0 a2 x b w.heap.size (w.heap.size + 1) W (Kd.C_below HR0.out (below_step HB.out hbW)) HC0.out ((hbW.cell (p := ⟨w.heap.size, 0, none⟩) (by simp <;> omega)).trans HK.out) ((hbW.cell (p := ⟨w.heap.size + 1, 0, none⟩) (by simp <;> omega)).trans HK2.out) hx); rintro e w2 ⟨rfl, hb2⟩)
  go_ret
  exact ⟨rfl, below_step HB.out hb2⟩
def impl_CaughtBy.p (k : Nat) (l0_0 : List (S62)) (l1 : List Int) (a : Int) : Option Bool := (impl_Tree_first.f k l0_0 l1 a).bind fun t => some (decide (0 ≤ t))
set_option maxHeartbeats 8000000 in
set_option maxRecDepth 100000 in
theorem impl_CaughtBy.clo (k : Nat) (A0 : Option Addr) (c0 : Nat) (l0 : List (S62)) (A1 : Option Addr) (c1 : Nat) (l1 : List Int) (x : Int) (b : Bool) (B B2 : Nat) (W : World) (hr : Kd.C k62 W A0 l0.length l0) (hc : l0.length ≤ c0) (hr1 : Kd.C (Kd.int .i64) W A1 l1.length l1) (hc1 : l1.length ≤ c1) (hcell : W.cell? ⟨B, 0, none⟩ = some (.slice A0 l0.length c0)) (hcell2 : W.cell? ⟨B2, 0, none⟩ = some (.slice A1 l1.length c1)) (h : impl_CaughtBy.p k l0 l1 x = some b) :
    Calls Try.prog 54 (#[.int .i64 x] ++ #[.pointer (some ⟨B, 0, none⟩), .pointer (some ⟨B2, 0, none⟩)]) W fun e W' => e = .returned (.bool b) ∧ Below W.heap.size W W' := by
  have hu25 := Try.underlying25
  obtain ⟨q, h1, h2⟩ := Option.bind_eq_some_iff.mp h
  obtain rfl := Option.some.inj h2
  have HR := Aside0.mk hr
  have HC := Aside0.mk hc
  have HR1 := Aside0.mk hr1
  have HC1 := Aside0.mk hc1
  have H := Aside0.mk h1
  clear hr hc hr1 hc1 h h1 h2
  show Calls Try.prog 54 #[.int .i64 x, .pointer (some ⟨B, 0, none⟩), .pointer (some ⟨B2, 0, none⟩)] W _
  go_enter Try.func54, Try.ntmps54
  go_wp2_with (go_at_call 55; refine (impl_Tree_first.calls k A0 c0 l0 A1 c1 l1 x q _ HR.out HC.out HR1.out HC1.out H.out).mono ?_; rintro e w' ⟨rfl, hb⟩)
  go_ret
  exact ⟨rfl, hb⟩
end Go.Proofs.Ytlibkefnlfcakaa.PT
