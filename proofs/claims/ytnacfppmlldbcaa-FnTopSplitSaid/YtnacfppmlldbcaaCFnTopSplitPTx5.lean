/- Words and walks that the law's proof uses: each printed function's contract. Conditions: none beyond the statement's own. -/
import Derived.Test.YtnacfppmlldbcaaCFnTopSplitPTx0
import Derived.Test.YtnacfppmlldbcaaCFnTopSplitPTx3
import Derived.Test.YtnacfppmlldbcaaCFnTopSplitPTx4
namespace Go.Proofs.Ytnacfppmlldbcaa.PT
open Go.RowKit Go.Proofs.YtnacfppmlldbcaaW.PrintWords Go.Proofs.YtnacfppmlldbcaaW.PrintLast Go.Proofs.YtnacfppmlldbcaaW.PrintMore
attribute [local go_sem] max2_int min2_int max_two min_two max_three min_three max_four min_four   -- for this text's walks alone
set_option linter.unusedVariables false
set_option linter.unusedSimpArgs false
def impl_ValidGroup.f (k : Nat) (l0_0 : List (S51)) (l1 : List (S41)) : Option (Bool) := (impl_ValidTree.f k l0_0).bind fun t126 => (if t126 = true then ((impl_partsOk.f k l0_0 l1).bind fun t127 => (some t127)) else (some false))
set_option maxHeartbeats 8000000 in
set_option maxRecDepth 100000 in
theorem impl_ValidGroup.calls (k : Nat) (A0_0 : Option Addr) (c0_0 : Nat) (l0_0 : List (S51)) (A1 : Option Addr) (c1 : Nat) (l1 : List (S41)) (r : Bool) (w : World) (hr0_0 : Kd.C k51 w A0_0 l0_0.length l0_0) (hc0_0 : l0_0.length ≤ c0_0) (hr1 : Kd.C k41 w A1 l1.length l1) (hc1 : l1.length ≤ c1) (h : impl_ValidGroup.f k l0_0 l1 = some r) :
  Calls Try.prog 7 #[.agg #[.slice A0_0 l0_0.length c0_0], .slice A1 l1.length c1] w fun e w' => e = .returned (.bool r) ∧ Below w.heap.size w w' := by
 have hu24 := Try.underlying24
 have HR0_0 := Aside0.mk hr0_0
 have HC0_0 := Aside0.mk hc0_0
 clear hr0_0 hc0_0
 have HR1 := Aside0.mk hr1
 have HC1 := Aside0.mk hc1
 clear hr1 hc1
 have HB := Aside0.mk (Below.refl w.heap.size w)
 have H : ((impl_ValidTree.f k l0_0).bind fun t126 => (if t126 = true then ((impl_partsOk.f k l0_0 l1).bind fun t127 => (some t127)) else (some false))) = some r := h
 clear h
 replace H := Option.bind_eq_some_iff.mp H
 obtain ⟨t126, A30, H⟩ := H
 replace H : (if t126 = true then ((impl_partsOk.f k l0_0 l1).bind fun t127 => (some t127)) else (some false)) = some r := H
 have A3 := Aside0.mk A30
 clear A30
 by_cases c4 : t126 = true
 ·subst c4
  have H1 : ((impl_partsOk.f k l0_0 l1).bind fun t127 => (some t127)) = some r := by rw [if_pos rfl] at H; exact H
  clear H
  have H := H1
  clear H1
  replace H := Option.bind_eq_some_iff.mp H
  obtain ⟨t127, A50, H⟩ := H
  replace H : (some t127) = some r := H
  have A5 := Aside0.mk A50
  clear A50
  obtain rfl := Option.some.inj H
  go_enter Try.func7, Try.ntmps7
  go_wp2_with (first | ((with_reducible refine gate_dst (N := 2) rfl ?_); refine box_event ?hg (N := 2) ?hd (cs := #[.slice A0_0 l0_0.length c0_0]) (t := 24) ?hr ?_; (case hd => rfl); (case hg => rfl); (case hr => first | (go_simp; done) | (go_simp; rfl)); intro gb125 hg w6 hbox hb; have n0_ := Aside0.mk (below_step (by repeat (first | (with_reducible first | exact HB.out | apply below_alloc | apply pw_below_drewN | apply below_drew1) | exact HB.out)) hb); have n1_ := Aside0.mk (hbox); have n2_ := Aside0.mk ((by rw [hg]; exact (below_size (by repeat (first | (with_reducible first | exact HB.out | apply below_alloc | apply pw_below_drewN | apply below_drew1) | exact HB.out))) : w.heap.size ≤ gb125)); have n3_ := Aside0.mk ((by rw [hg]; exact (below_size (by repeat (first | (with_reducible first | exact HB.out | apply below_alloc | apply pw_below_drewN | apply below_drew1) | exact HB.out))) : w.heap.size ≤ gb125)); clear HB; have HB := n0_; have BK125 := n1_; have GW125 := n2_; have GE125 := n3_; clear n0_ n1_ n2_ n3_; clear hb hbox hg; have hcz7_0 : w6.cell? ⟨gb125, 0, none⟩ = some (.slice A0_0 l0_0.length c0_0) := (blk_cell BK125.out 0).trans rfl; have hfz7_0 := blk_frozen BK125.out 0) | ((with_reducible refine gate_callee (f := 17) rfl ?_); refine goesL_ (some 6) rfl rfl Try.func17 (by kernel_rfl) rfl #[.agg #[.slice A0_0 l0_0.length c0_0]] rfl (by (try simp only [List.map_toArray, List.map_cons, List.map_nil]); first | done | rfl | (simp only [List.length_drop, List.length_take]; rfl)) ?_; (with_reducible refine (impl_ValidTree.calls k _ _ l0_0 true _ ?side1 ?side2 A3.out).mono ?_); (case side1 => repeat (first | exact (Kd.C_below HR0_0.out HB.out) | (with_reducible refine Kd.C_alloc ?_ _) | (with_reducible refine Kd.C_drewN ?_ _) | (with_reducible refine Kd.C_drew ?_))); (case side2 => exact HC0_0.out); rintro e w8 ⟨rfl, hb⟩; refine ⟨_, rfl, ?_⟩; have n0_ := Aside0.mk (blk_below (g := gb125) (o := .cells #[.slice A0_0 l0_0.length c0_0] 24 (0, 0)) (by (with_reducible repeat (first | refine blk_drewN ?_ _ | refine blk_drew ?_ | refine blk_alloc ?_ _)); exact BK125.out) hb); have n1_ := Aside0.mk (below_step (by repeat (first | (with_reducible first | exact HB.out | apply below_alloc | apply pw_below_drewN | apply below_drew1 | refine below_set ?_ GE125.out) | exact HB.out)) hb); clear BK125; clear HB; have BK125 := n0_; have HB := n1_; clear n0_ n1_; (try clear hb); (try clear hb2); (try clear hk); (try clear hi); have hcz9_0 : w8.cell? ⟨gb125, 0, none⟩ = some (.slice A0_0 l0_0.length c0_0) := (blk_cell BK125.out 0).trans rfl; have hfz9_0 := blk_frozen BK125.out 0) | (go_at_call 18; (with_reducible refine (impl_partsOk.calls k _ _ l0_0 _ _ l1 t127 _ ?side1 ?side2 ?side3 ?side4 A5.out).mono ?_); (case side1 => repeat (first | exact (Kd.C_below HR0_0.out HB.out) | (with_reducible refine Kd.C_alloc ?_ _) | (with_reducible refine Kd.C_drewN ?_ _) | (with_reducible refine Kd.C_drew ?_))); (case side2 => exact HC0_0.out); (case side3 => repeat (first | exact (Kd.C_below HR1.out HB.out) | (with_reducible refine Kd.C_alloc ?_ _) | (with_reducible refine Kd.C_drewN ?_ _) | (with_reducible refine Kd.C_drew ?_))); (case side4 => exact HC1.out); rintro e w10 ⟨rfl, hb⟩; have n0_ := Aside0.mk (blk_below (g := gb125) (o := .cells #[.slice A0_0 l0_0.length c0_0] 24 (0, 0)) (by (with_reducible repeat (first | refine blk_drewN ?_ _ | refine blk_drew ?_ | refine blk_alloc ?_ _)); exact BK125.out) hb); have n1_ := Aside0.mk (below_step (by repeat (first | (with_reducible first | exact HB.out | apply below_alloc | apply pw_below_drewN | apply below_drew1 | refine below_set ?_ GE125.out) | exact HB.out)) hb); clear BK125; clear HB; have BK125 := n0_; have HB := n1_; clear n0_ n1_; (try clear hb); (try clear hb2); (try clear hk); (try clear hi)))
  go_ret
  exact ⟨by first | rfl | (simp [errW_none, errW_some] <;> rfl) | (simp [*, errW_none, errW_some] <;> rfl), by repeat (first | (with_reducible first | exact HB.out | apply below_alloc | apply pw_below_drewN | apply below_drew1 | refine below_set ?_ GE125.out) | exact HB.out)⟩
 ·replace c4 := Bool.eq_false_iff.mpr c4
  subst c4
  have H1 : (some false) = some r := by rw [if_neg (show ¬ (false = true) by decide)] at H; exact H
  clear H
  have H := H1
  clear H1
  obtain rfl := Option.some.inj H
  go_enter Try.func7, Try.ntmps7
  go_wp2_with (first | ((with_reducible refine gate_dst (N := 2) rfl ?_); refine box_event ?hg (N := 2) ?hd (cs := #[.slice A0_0 l0_0.length c0_0]) (t := 24) ?hr ?_; (case hd => rfl); (case hg => rfl); (case hr => first | (go_simp; done) | (go_simp; rfl)); intro gb125 hg w11 hbox hb; have n0_ := Aside0.mk (below_step (by repeat (first | (with_reducible first | exact HB.out | apply below_alloc | apply pw_below_drewN | apply below_drew1) | exact HB.out)) hb); have n1_ := Aside0.mk (hbox); have n2_ := Aside0.mk ((by rw [hg]; exact (below_size (by repeat (first | (with_reducible first | exact HB.out | apply below_alloc | apply pw_below_drewN | apply below_drew1) | exact HB.out))) : w.heap.size ≤ gb125)); have n3_ := Aside0.mk ((by rw [hg]; exact (below_size (by repeat (first | (with_reducible first | exact HB.out | apply below_alloc | apply pw_below_drewN | apply below_drew1) | exact HB.out))) : w.heap.size ≤ gb125)); clear HB; have HB := n0_; have BK125 := n1_; have GW125 := n2_; have GE125 := n3_; clear n0_ n1_ n2_ n3_; clear hb hbox hg; have hcz12_0 : w11.cell? ⟨gb125, 0, none⟩ = some (.slice A0_0 l0_0.length c0_0) := (blk_cell BK125.out 0).trans rfl; have hfz12_0 := blk_frozen BK125.out 0) | ((with_reducible refine gate_callee (f := 17) rfl ?_); refine goesL_ (some 6) rfl rfl Try.func17 (by kernel_rfl) rfl #[.agg #[.slice A0_0 l0_0.length c0_0]] rfl (by (try simp only [List.map_toArray, List.map_cons, List.map_nil]); first | done | rfl | (simp only [List.length_drop, List.length_take]; rfl)) ?_; (with_reducible refine (impl_ValidTree.calls k _ _ l0_0 false _ ?side1 ?side2 A3.out).mono ?_); (case side1 => repeat (first | exact (Kd.C_below HR0_0.out HB.out) | (with_reducible refine Kd.C_alloc ?_ _) | (with_reducible refine Kd.C_drewN ?_ _) | (with_reducible refine Kd.C_drew ?_))); (case side2 => exact HC0_0.out); rintro e w13 ⟨rfl, hb⟩; refine ⟨_, rfl, ?_⟩; have n0_ := Aside0.mk (blk_below (g := gb125) (o := .cells #[.slice A0_0 l0_0.length c0_0] 24 (0, 0)) (by (with_reducible repeat (first | refine blk_drewN ?_ _ | refine blk_drew ?_ | refine blk_alloc ?_ _)); exact BK125.out) hb); have n1_ := Aside0.mk (below_step (by repeat (first | (with_reducible first | exact HB.out | apply below_alloc | apply pw_below_drewN | apply below_drew1 | refine below_set ?_ GE125.out) | exact HB.out)) hb); clear BK125; clear HB; have BK125 := n0_; have HB := n1_; clear n0_ n1_; (try clear hb); (try clear hb2); (try clear hk); (try clear hi)))
  go_ret
  exact ⟨by first | rfl | (simp [errW_none, errW_some] <;> rfl) | (simp [*, errW_none, errW_some] <;> rfl), by repeat (first | (with_reducible first | exact HB.out | apply below_alloc | apply pw_below_drewN | apply below_drew1 | refine below_set ?_ GE125.out) | exact HB.out)⟩
set_option maxHeartbeats 8000000 in
set_option maxRecDepth 100000 in
theorem impl_Part_47.calls (g : Nat) (lb : Array Value) (eg : ∀ args w, (callFunc g args).run Try.prog w = .ok (.enter g args) w) (p : (S41) → Option Bool) (A0 : Option Addr) (c0 : Nat) (l0 : List (S41)) (r : Int) (w : World) (hr0 : Kd.C k41 w A0 l0.length l0) (hc0 : l0.length ≤ c0)
  (hp : ∀ (W : World) (x : (S41)) (b : Bool), Below w.heap.size w W → p x = some b → Calls Try.prog g (#[.agg #[.int .i64 x.f0, .bool x.f1, .int .i64 x.f2, .int .i64 x.f3]] ++ lb) W fun e W' => e = .returned (.bool b) ∧ Below W.heap.size W W')
  (h : idxO p l0 0 = some r) :
  Calls Try.prog 47 #[.slice A0 l0.length c0, .func (.func g) #[] lb] w fun e w' => e = .returned (.int .i64 r) ∧ Below w.heap.size w w' := by
 have hu41 := Try.underlying41
 have HR0 := Aside0.mk hr0
 have HC0 := Aside0.mk hc0
 have hmx := hr0.2.1
 clear hr0 hc0
 have HB := Aside0.mk (Below.refl w.heap.size w)
 have HP := Aside0.mk hp
 clear hp
 have H' := Aside0.mk h
 clear h
 go_enter Try.func47, Try.ntmps47
 go_wp2
 go_loopg [5, 8] l0.length (fun gg _ v8 w' => ∃ (kk : Nat), v8 = .int .i64 kk ∧ Aside0 (kk ≤ l0.length) ∧ Aside0 (l0.length - kk ≤ gg) ∧ Aside0 (idxO p (l0.drop kk) kk = some r) ∧ Aside0 (Below w.heap.size w w'))
 case atStart => exact ⟨0, rfl, ⟨Nat.zero_le _⟩, ⟨by omega⟩, H', HB⟩
 case round =>
  clear H' HB
  obtain ⟨kk, rfl, HK1, HM, H, HB⟩ := hrel
  by_cases hlt : kk < l0.length
  ·have c2b0 : decide ((kk : Int) < (l0.length : Int)) = true := decide_eq_true (by omega)
   have c2b1 : decide (kk < l0.length) = true := decide_eq_true hlt
   have c3b0 : decide ((0 : Int) ≤ (kk : Int)) = true := decide_eq_true (by omega)
   have H1 := H.out
   rw [idxO_at p l0 kk z41 kk hlt] at H1
   obtain ⟨b, hb1, hb2⟩ := Option.bind_eq_some_iff.mp H1
   clear H1 H
   obtain ⟨ad123, e123, hx0, hx1, hx2, hx3⟩ := at_T41 HR0.out (kk : Int) (by omega) (by omega)
   have hgd : rd_T41 l0 (kk : Int) = l0.getD kk z41 := rfl
   rw [hgd] at hx0 hx1 hx2 hx3
   clear hgd
   generalize l0.getD kk z41 = x at hx0 hx1 hx2 hx3 hb1
   have HX := Aside0.mk hb1
   clear hb1
   cases e123
   simp only [Int.toNat_natCast] at hx0 hx1 hx2 hx3
   replace hx0 := (HB.out.cell (World.block_lt_of_cell? w _ hx0)).trans hx0
   replace hx1 := (HB.out.cell (World.block_lt_of_cell? w _ hx1)).trans hx1
   replace hx2 := (HB.out.cell (World.block_lt_of_cell? w _ hx2)).trans hx2
   replace hx3 := (HB.out.cell (World.block_lt_of_cell? w _ hx3)).trans hx3
   have HL := Aside0.mk hlt
   have q123 : (kk : Int) < (l0.length : Int) := by omega
   clear hlt
   cases b with
   | true =>
    rw [if_pos rfl] at hb2
    have HE := Aside0.mk (Option.some.inj hb2)
    clear hb2
    go_wp2_with (go_at_fn g; refine (HP.out _ x true HB.out HX.out).mono ?_; rintro e w' ⟨rfl, hb'⟩)
    go_ret
    exact ⟨by obtain rfl := HE.out; rfl, below_step HB.out hb'⟩
   | false =>
    rw [if_neg (by decide)] at hb2
    have HE := Aside0.mk hb2
    clear hb2
    go_wp2_with (go_at_fn g; refine (HP.out _ x false HB.out HX.out).mono ?_; rintro e w' ⟨rfl, hb'⟩)
    go_roundg (l0.length - (kk + 1))
    case measure => have := HL.out; have := HM.out; omega
    case rel => exact ⟨kk + 1, by go_num, ⟨by have := HL.out; omega⟩, ⟨by omega⟩, ⟨by rw [← HE.out]; rfl⟩, ⟨below_step HB.out hb'⟩⟩
  ·have c2b0 : decide ((kk : Int) < (l0.length : Int)) = false := decide_eq_false (by omega)
   have c2b1 : decide (kk < l0.length) = false := decide_eq_false hlt
   have H1 := H.out
   rw [List.drop_of_length_le (by omega)] at H1
   have HE := Aside0.mk (Option.some.inj H1)
   clear H1 H
   go_wp2
   go_ret
   exact ⟨by obtain rfl := HE.out; rfl, HB.out⟩
set_option maxHeartbeats 8000000 in
set_option maxRecDepth 100000 in
theorem impl_Part_36.calls (g : Nat) (lb : Array Value) (eg : ∀ args w, (callFunc g args).run Try.prog w = .ok (.enter g args) w) (p : (S41) → Option Bool) (A0 : Option Addr) (c0 : Nat) (l0 : List (S41)) (r : Int) (w : World) (hr0 : Kd.C k41 w A0 l0.length l0) (hc0 : l0.length ≤ c0)
  (hp : ∀ (W : World) (x : (S41)) (b : Bool), Below w.heap.size w W → p x = some b → Calls Try.prog g (#[.agg #[.int .i64 x.f0, .bool x.f1, .int .i64 x.f2, .int .i64 x.f3]] ++ lb) W fun e W' => e = .returned (.bool b) ∧ Below W.heap.size W W')
  (h : idxO p l0 0 = some r) :
  Calls Try.prog 36 #[.slice A0 l0.length c0, .func (.func g) #[] lb] w fun e w' => e = .returned (.bool (decide (0 ≤ r))) ∧ Below w.heap.size w w' := by
 have HR0 := Aside0.mk hr0
 have HC0 := Aside0.mk hc0
 have HP := Aside0.mk hp
 have H := Aside0.mk h
 clear hr0 hc0 hp h
 go_enter Try.func36, Try.ntmps36
 go_wp2_with (go_at_call 47; refine (impl_Part_47.calls g lb eg p A0 c0 l0 r _ HR0.out HC0.out HP.out H.out).mono ?_; rintro e w' ⟨rfl, hb⟩)
 go_ret
 exact ⟨rfl, hb⟩
def impl_end.l0 : Nat → List (S41) → Int → Int → Option (Int)
 | 0, _, _, _ => none
 | k + 1, x0, x1, x5 => if x5 < (x0.length : Int) then (if 0 ≤ x5 then (if 0 ≤ x1 then (if x1 < (x0.length : Int) then (if ((rd_T41 x0 x5).f0) > ((rd_T41 x0 x1).f0) then (impl_end.l0 k x0 x1 (wrap64 (x5 + 1))) else (some x5)) else (none)) else (none)) else (none)) else (some x5)
def impl_end.f (k : Nat) (l0 : List (S41)) (a1 : Int) : Option (Int) := impl_end.l0 k l0 a1 (wrap64 (a1 + 1))
set_option maxHeartbeats 8000000 in
set_option maxRecDepth 100000 in
theorem impl_end.calls (k : Nat) (A0 : Option Addr) (c0 : Nat) (l0 : List (S41)) (a1 : Int) (r : Int) (w : World) (hr0 : Kd.C k41 w A0 l0.length l0) (hc0 : l0.length ≤ c0) (h : impl_end.f k l0 a1 = some r) :
  Calls Try.prog 37 #[.slice A0 l0.length c0, .int .i64 a1] w fun e w' => e = .returned (.int .i64 r) ∧ Drawn0 w w' := by
 have HR0 := Aside0.mk hr0
 have HC0 := Aside0.mk hc0
 clear hr0 hc0
 have H : (impl_end.l0 k l0 a1 (wrap64 (a1 + 1))) = some r := h
 clear h
 have H' := Aside0.mk H
 clear H
 go_enter Try.func37, Try.ntmps37
 go_wp2
 repeat (go_quiet (fail); try go_wp2)
 go_loopg [5] k (fun kq v5 w' => ∃ (x5_1 : Int), v5 = .int .i64 x5_1 ∧ Aside0 (impl_end.l0 kq l0 a1 x5_1 = some r) ∧ Aside0 (kq ≤ k) ∧ Drawn0 w w')
 case atStart => exact ⟨(wrap64 (a1 + 1)), (by first | rfl | (simp; done) | (simp [*]; done)), H', ⟨Nat.le_refl _⟩, by repeat (first | exact Drawn0.refl _ | apply Drawn0.step)⟩
 case round =>
  clear H'
  try clear p2
  obtain ⟨x5_1, rfl, HA, HK1, ⟨m1, rfl⟩⟩ := hrel
  cases gk with
  | zero => exact absurd HA.out (by simp [impl_end.l0])
  | succ k1 =>
   have H := HA.out
   clear HA
   simp only [impl_end.l0] at H
   by_cases c3 : x5_1 < (l0.length : Int)
   ·rw [if_pos c3] at H
    have c3b0 : decide (x5_1 < (l0.length : Int)) = true := decide_eq_true c3
    clear c3
    by_cases c4 : 0 ≤ x5_1
    ·rw [if_pos c4] at H
     have c4b0 : decide (0 ≤ x5_1) = true := decide_eq_true c4
     clear c4
     by_cases c5 : 0 ≤ a1
     ·rw [if_pos c5] at H
      have c5b0 : decide (0 ≤ a1) = true := decide_eq_true c5
      clear c5
      by_cases c6 : a1 < (l0.length : Int)
      ·rw [if_pos c6] at H
       have c6b0 : decide (a1 < (l0.length : Int)) = true := decide_eq_true c6
       clear c6
       by_cases c7 : ((rd_T41 l0 x5_1).f0) > ((rd_T41 l0 a1).f0)
       ·rw [if_pos c7] at H
        have c7b0 : decide (((rd_T41 l0 a1).f0) < ((rd_T41 l0 x5_1).f0)) = true := decide_eq_true c7
        clear c7
        have H' := Aside0.mk H
        clear H
        have p128 : 0 ≤ (x5_1 : Int) := of_decide_eq_true (by first | (with_reducible assumption) | assumption)
        have q128 : x5_1 < (l0.length : Int) := of_decide_eq_true (by first | (with_reducible assumption) | assumption)
        obtain ⟨ad128, e128, hx128_0, hx128_1, hx128_2, hx128_3⟩ := at_T41 HR0.out x5_1 p128 q128
        cases e128
        replace p128 := eq_true p128
        replace q128 := eq_true q128
        have p129 : 0 ≤ (a1 : Int) := of_decide_eq_true (by first | (with_reducible assumption) | assumption)
        have q129 : a1 < (l0.length : Int) := of_decide_eq_true (by first | (with_reducible assumption) | assumption)
        obtain ⟨ad129, e129, hx129_0, hx129_1, hx129_2, hx129_3⟩ := at_T41 HR0.out a1 p129 q129
        obtain rfl : ad128 = ad129 := (by injection e129)
        replace p129 := eq_true p129
        replace q129 := eq_true q129
        go_wp2
        repeat (go_quiet (fail); try go_wp2)
        go_roundg k1
        case measure => have := HK1.out; omega
        case rel => exact ⟨(wrap64 (x5_1 + 1)), (by first | rfl | (simp; done) | (simp [*]; done)), H', ⟨by have := HK1.out; omega⟩, by repeat (first | exact Drawn0.refl _ | apply Drawn0.step)⟩
       ·rw [if_neg c7] at H
        have c7b0 : decide (((rd_T41 l0 a1).f0) < ((rd_T41 l0 x5_1).f0)) = false := decide_eq_false c7
        clear c7
        obtain rfl := Option.some.inj H
        have p128 : 0 ≤ (x5_1 : Int) := of_decide_eq_true (by first | (with_reducible assumption) | assumption)
        have q128 : x5_1 < (l0.length : Int) := of_decide_eq_true (by first | (with_reducible assumption) | assumption)
        obtain ⟨ad128, e128, hx128_0, hx128_1, hx128_2, hx128_3⟩ := at_T41 HR0.out x5_1 p128 q128
        cases e128
        replace p128 := eq_true p128
        replace q128 := eq_true q128
        have p129 : 0 ≤ (a1 : Int) := of_decide_eq_true (by first | (with_reducible assumption) | assumption)
        have q129 : a1 < (l0.length : Int) := of_decide_eq_true (by first | (with_reducible assumption) | assumption)
        obtain ⟨ad129, e129, hx129_0, hx129_1, hx129_2, hx129_3⟩ := at_T41 HR0.out a1 p129 q129
        obtain rfl : ad128 = ad129 := (by injection e129)
        replace p129 := eq_true p129
        replace q129 := eq_true q129
        go_wp2
        repeat (go_quiet (fail); try go_wp2)
        go_ret
        exact ⟨by first | rfl | (simp; done) | (simp [*]; done), by repeat (first | exact Drawn0.refl _ | apply Drawn0.step)⟩
      ·rw [if_neg c6] at H
       exact absurd H (by simp)
     ·rw [if_neg c5] at H
      exact absurd H (by simp)
    ·rw [if_neg c4] at H
     exact absurd H (by simp)
   ·rw [if_neg c3] at H
    have c3b0 : decide (x5_1 < (l0.length : Int)) = false := decide_eq_false c3
    clear c3
    obtain rfl := Option.some.inj H
    go_wp2
    repeat (go_quiet (fail); try go_wp2)
    go_ret
    exact ⟨by first | rfl | (simp; done) | (simp [*]; done), by repeat (first | exact Drawn0.refl _ | apply Drawn0.step)⟩
def impl_with.q (p : S41 → Option Bool) (x : S41) : Option Bool := if x.f1 = true then some false else p x
def impl_with.go (k : Nat) (p : S41 → Option Bool) (l0 : List (S41)) : Nat → Nat → List (S41) → Option (List (S41))
 | 0, _, acc => some acc
 | n + 1, i, acc => (impl_end.f k l0 (i : Int)).bind fun e => if (i : Int) ≤ e ∧ e ≤ (l0.length : Int) then ((idxO (impl_with.q p) ((l0.take e.toNat).drop i) 0).bind fun t => impl_with.go k p l0 n (i + 1) (if 0 ≤ t then acc ++ [rd_T41 l0 (i : Int)] else acc)) else none
def impl_with.f (k : Nat) (p : S41 → Option Bool) (l0 : List (S41)) : Option (List (S41)) := if l0.length < 4398046511104 then impl_with.go k p l0 l0.length 0 [] else none
set_option maxRecDepth 100000 in
set_option maxHeartbeats 2000000 in
theorem impl_with.clip (A0 : Option Addr) (n c : Nat) (hc : n ≤ c) (w : World) :
  Calls Try.prog 39 #[.slice A0 n c] w fun e w' => e = .returned (.slice A0 n n) ∧ w' = w := by
 obtain ⟨i0, hi0, _, hsz, _⟩ := info_parts info41
 have hcut := cut_clip (P := Try.prog) 25 41 .i64 .i64 Try.underlying25 hi0 A0 n c n rfl hc
 clear hi0 hsz
 go_enter Try.func39, Try.ntmps39
 go_wp2
 go_ret
 exact ⟨rfl, rfl⟩
set_option maxHeartbeats 8000000 in
set_option maxRecDepth 100000 in
theorem impl_with.clo (gf : Nat) (lb : Array Value) (eg : ∀ args w, (callFunc gf args).run Try.prog w = .ok (.enter gf args) w) (p : S41 → Option Bool) (B : Nat) (W : World) (x : S41) (b : Bool) (hcell : W.cell? ⟨B, 0, none⟩ = some (.func (.func gf) #[] lb))
  (hp : ∀ (W' : World) (b : Bool), Below W.heap.size W W' → p x = some b → Calls Try.prog gf (#[.agg #[.int .i64 x.f0, .bool x.f1, .int .i64 x.f2, .int .i64 x.f3]] ++ lb) W' fun e W'' => e = .returned (.bool b) ∧ Below W'.heap.size W' W'') (h : impl_with.q p x = some b) :
  Calls Try.prog 38 (#[.agg #[.int .i64 x.f0, .bool x.f1, .int .i64 x.f2, .int .i64 x.f3]] ++ #[.pointer (some ⟨B, 0, none⟩)]) W fun e W' => e = .returned (.bool b) ∧ Below W.heap.size W W' := by
 have hu41 := Try.underlying41
 obtain ⟨x0, x1, x2, x3⟩ := x
 unfold impl_with.q at h
 dsimp only at hp h ⊢
 show Calls Try.prog 38 #[.agg #[.int .i64 x0, .bool x1, .int .i64 x2, .int .i64 x3], .pointer (some ⟨B, 0, none⟩)] W _
 have hne : B ≠ W.heap.size := Nat.ne_of_lt (World.block_lt_of_cell? W _ hcell)
 cases x1 with
 | true =>
  rw [if_pos rfl] at h
  obtain rfl := Option.some.inj h
  replace hcell := cell_old W (.cells #[.int .i64 x0, .bool true, .int .i64 x2, .int .i64 x3] 41) hcell
  clear h hp
  go_enter Try.func38, Try.ntmps38
  go_wp2
  go_ret
  exact ⟨rfl, below_alloc (Below.refl _ _) _⟩
 | false =>
  rw [if_neg (by decide)] at h
  replace hcell := cell_old W (.cells #[.int .i64 x0, .bool false, .int .i64 x2, .int .i64 x3] 41) hcell
  have HB := Aside0.mk (below_alloc (Below.refl W.heap.size W) (.cells #[.int .i64 x0, .bool false, .int .i64 x2, .int .i64 x3] 41))
  have HP := Aside0.mk hp
  have H := Aside0.mk h
  clear h hp
  go_enter Try.func38, Try.ntmps38
  go_wp2_with (go_at_fn gf; refine (HP.out _ b HB.out H.out).mono ?_; rintro e w' ⟨rfl, hb⟩)
  go_ret
  exact ⟨rfl, below_step HB.out hb⟩
set_option maxHeartbeats 8000000 in
set_option maxRecDepth 100000 in
theorem impl_with.calls (k gf : Nat) (lb : Array Value) (eg : ∀ args w, (callFunc gf args).run Try.prog w = .ok (.enter gf args) w) (p : S41 → Option Bool) (A0 : Option Addr) (c0 : Nat) (l0 r : List (S41)) (w : World) (hr0 : Kd.C k41 w A0 l0.length l0) (hc0 : l0.length ≤ c0)
  (hp : ∀ (W : World) (x : S41) (b : Bool), Below w.heap.size w W → p x = some b → Calls Try.prog gf (#[.agg #[.int .i64 x.f0, .bool x.f1, .int .i64 x.f2, .int .i64 x.f3]] ++ lb) W fun e W' => e = .returned (.bool b) ∧ Below W.heap.size W W') (h : impl_with.f k p l0 = some r) :
  Calls Try.prog 22 #[.slice A0 l0.length c0, .func (.func gf) #[] lb] w fun e w' => ∃ v0_ : Value, e = .returned (v0_) ∧ Kd.R k41 41 w' w.heap.size (fun _ => True) v0_ r ∧ Below w.heap.size w w' := by
 have hu41 := Try.underlying41
 have HR := Aside0.mk hr0
 have HC := Aside0.mk hc0
 have HP := Aside0.mk hp
 have hmx := hr0.2.1
 clear hr0 hc0 hp
 unfold impl_with.f at h
 by_cases c2 : l0.length < 4398046511104
 case neg => rw [if_neg c2] at h; cases h
 rw [if_pos c2] at h
 have LM := Aside0.mk c2
 have H := Aside0.mk h
 clear c2 h
 have eg38 : ∀ args w, (callFunc 38 args).run Try.prog w = .ok (.enter 38 args) w := enters_of Try.func38 (by kernel_rfl) rfl
 have HB := Aside0.mk (below_alloc (Below.refl w.heap.size w) (.cells #[.func (.func gf) #[] lb] 47))
 have HK := Aside0.mk (show (w.alloc (.cells #[.func (.func gf) #[] lb] 47)).cell? ⟨w.heap.size, 0, none⟩ = some (.func (.func gf) #[] lb) by simp)
 go_enter Try.func22, Try.ntmps22
 go_wp2_with ((with_reducible refine gate_dst (N := 8) rfl ?_); refine Kd.R_lit k41 w.heap.size 41 ?hg (N := 8) ?hd (xs := ([] : List (S41))) (inner := []) (ok := fun k => w.heap.size < k) (okp := fun _ => False) ?hr ?hp (fun _ hk => hk.elim) (by simp) (w0 := w) HB.out (by simp) (by simp) ?_; (case hd => rfl); (case hg => rfl); (case hr => first | (go_simp; done) | (go_simp; rfl)); (case hp => exact (Reps.none _ _)); intro v5 w3 ho4 hb hg_ hnew_; have HO := Aside0.mk ho4; have HB1 := Aside0.mk hb; have HK1 := Aside0.mk ((World.cell?_of_block (a := ⟨w.heap.size, 0, none⟩) (hg_.block w.heap.size (by simp) (by simp))).trans HK.out); clear ho4 hb hg_ hnew_ HB HK)
 go_loopg [5, 11] l0.length (fun gg v5 v11 w' => ∃ (kk : Nat) (acc : List (S41)), v11 = .int .i64 kk ∧ Aside0 (kk ≤ l0.length) ∧ Aside0 (l0.length - kk ≤ gg) ∧ Aside0 (acc.length ≤ kk) ∧ Aside0 (impl_with.go k p l0 (l0.length - kk) kk acc = some r) ∧ Aside0 (Kd.R k41 41 w' w.heap.size (fun k => w.heap.size < k) v5 acc) ∧ Aside0 (Below w.heap.size w w') ∧ Aside0 (w'.cell? ⟨w.heap.size, 0, none⟩ = some (.func (.func gf) #[] lb)))
 case atStart => exact ⟨0, [], rfl, ⟨Nat.zero_le _⟩, ⟨by omega⟩, ⟨by simp⟩, H, HO, HB1, HK1⟩
 case round =>
  clear H HO HB1 HK1
  obtain ⟨kk, acc, rfl, HK1, HM, HAL, HG, HO, HB, HKC⟩ := hrel
  by_cases hlt : kk < l0.length
  ·have c2b0 : decide ((kk : Int) < (l0.length : Int)) = true := decide_eq_true (by omega)
   have c2b1 : decide (kk < l0.length) = true := decide_eq_true hlt
   have q1 : ((kk : Int) < (l0.length : Int)) = True := eq_true (by omega)
   have q2 : ((0 : Int) ≤ (kk : Int)) = True := eq_true (by omega)
   have hG := HG.out
   obtain ⟨m, hm⟩ : ∃ m, l0.length - kk = m + 1 := ⟨l0.length - kk - 1, by omega⟩
   rw [hm] at hG
   unfold impl_with.go at hG
   obtain ⟨e, he, hG⟩ := Option.bind_eq_some_iff.mp hG
   by_cases hc : (kk : Int) ≤ e ∧ e ≤ (l0.length : Int)
   case neg => rw [if_neg hc] at hG; cases hG
   rw [if_pos hc] at hG
   obtain ⟨t, ht, hG⟩ := Option.bind_eq_some_iff.mp hG
   obtain ⟨ad1, e1, hx0, hx1, hx2, hx3⟩ := at_T41 HR.out (kk : Int) (by omega) (by omega)
   cases e1
   simp only [Int.toNat_natCast] at hx0 hx1 hx2 hx3
   generalize rd_T41 l0 (kk : Int) = x at hx0 hx1 hx2 hx3 hG
   replace hx0 := (HB.out.cell (World.block_lt_of_cell? w _ hx0)).trans hx0
   replace hx1 := (HB.out.cell (World.block_lt_of_cell? w _ hx1)).trans hx1
   replace hx2 := (HB.out.cell (World.block_lt_of_cell? w _ hx2)).trans hx2
   replace hx3 := (HB.out.cell (World.block_lt_of_cell? w _ hx3)).trans hx3
   have hcut : ∀ W : World, (Instr.slice 25 (.slice (some ad1) l0.length c0) (some (.int .i64 (kk : Int))) (some (.int .i64 e)) none).run Try.prog W = .ok (.slice (if c0 = kk then (some ad1) else Option.map (fun x => x.add (kk * 4)) (some ad1)) (e.toNat - kk) (c0 - kk)) W := by
    obtain ⟨i0, hi0, _, hsz, _⟩ := info_parts info41
    exact cut_mid (P := Try.prog) 25 41 .i64 .i64 Try.underlying25 hi0 4 hsz (some ad1) l0.length c0 (kk : Int) e (by omega) hc.1 hc.2 HC.out
   have hr2 : Kd.C k41 wr (if c0 = kk then (some ad1) else Option.map (fun x => x.add (kk * 4)) (some ad1)) ((l0.take e.toNat).drop kk).length ((l0.take e.toNat).drop kk) := Kd.C_mid (lo := kk) (hi := e.toNat) (Kd.C_below HR.out HB.out) (by omega) (by omega) HC.out
   generalize (if c0 = kk then (some ad1) else Option.map (fun x => x.add (kk * 4)) (some ad1)) = Aj at hcut hr2
   have hl2 : ((l0.take e.toNat).drop kk).length = e.toNat - kk := by rw [List.length_drop, List.length_take]; omega
   generalize (l0.take e.toNat).drop kk = sg at hr2 hl2 ht
   have HL2 := Aside0.mk hl2
   have HR2 := Aside0.mk hr2
   have HE := Aside0.mk he
   have HT := Aside0.mk ht
   have HCC := Aside0.mk hc
   have HLT := Aside0.mk hlt
   have HMM := Aside0.mk hm
   have hs0 := HKC.out
   have hs1 : w.heap.size < wr.heap.size := World.block_lt_of_cell? wr _ HKC.out
   clear hl2 hr2 he ht hc hlt hm
   by_cases c4 : 0 ≤ t
   ·have c4b0 : decide (0 ≤ t) = true := decide_eq_true c4
    rw [if_pos c4] at hG
    have HG1 := Aside0.mk hG
    clear hG c4
    go_wp2_with (first | (go_at_call 37; refine (impl_end.calls k (some ad1) c0 l0 (kk : Int) e _ (Kd.C_alloc (Kd.C_below HR.out HB.out) _) HC.out HE.out).mono ?_; rintro e' w2 ⟨rfl, hb⟩; replace hb := Drawn0.below hb; have HB2 := Aside0.mk (below_step (below_alloc HB.out _) hb); have HBR := Aside0.mk hb; have HK2 := Aside0.mk ((hb.cell (p := ⟨w.heap.size, 0, none⟩) (by simp; omega)).trans (cell_old wr _ hs0)); have HS2 := Aside0.mk (show w.heap.size < w2.heap.size by have := hb.size; simp at this; omega); clear hb hs0) | (have hcf := impl_Part_36.calls 38 #[.pointer (some ⟨w.heap.size, 0, none⟩)] eg38 (impl_with.q p) Aj (c0 - kk) sg t w2 (Kd.C_below HR2.out (below_step (below_alloc (Below.refl wr.heap.size wr) _) HBR.out)) (by rw [HL2.out]; have := HC.out; have := HCC.out; omega) (fun W y b hbW hy => impl_with.clo gf lb eg p w.heap.size W y b ((hbW.cell (p := ⟨w.heap.size, 0, none⟩) HS2.out).trans HK2.out) (fun W' b' hb' hpy => HP.out W' y b' (below_step (below_step HB2.out hbW) hb') hpy) hy) HT.out; rw [HL2.out] at hcf; go_at_call 36; refine hcf.mono ?_; clear hcf; rintro e' w3 ⟨rfl, hb⟩; have HB3 := Aside0.mk (below_step HB2.out hb); have HK3 := Aside0.mk ((hb.cell (p := ⟨w.heap.size, 0, none⟩) HS2.out).trans HK2.out); have hbk : w3.heap[wr.heap.size]? = some (.cells #[.int .i64 x.f0, .bool x.f1, .int .i64 x.f2, .int .i64 x.f3] 41 (0, 0)) := (hb.block wr.heap.size (by have := HBR.out.size; simp at this; omega)).trans ((HBR.out.block wr.heap.size (by simp)).trans (heap_alloc_new wr _)); have hp0 : w3.cell? ⟨wr.heap.size, 0, none⟩ = some (.int .i64 x.f0) := (blk_cell hbk 0).trans rfl; have hp1 : w3.cell? ⟨wr.heap.size, 1, none⟩ = some (.bool x.f1) := (blk_cell hbk 1).trans rfl; have hp2 : w3.cell? ⟨wr.heap.size, 2, none⟩ = some (.int .i64 x.f2) := (blk_cell hbk 2).trans rfl; have hp3 : w3.cell? ⟨wr.heap.size, 3, none⟩ = some (.int .i64 x.f3) := (blk_cell hbk 3).trans rfl; have HO3 := Aside0.mk (Kd.R_below (Kd.R_below (Kd.R_alloc HO.out _) HBR.out) hb); have HS3 := Aside0.mk (Nat.lt_of_lt_of_le HS2.out hb.size); clear hb hbk) | ((with_reducible refine gate_builtin (b := .append) (xs := #[.tmp 24, .tmp 26]) rfl ?_); at_builtin; refine Kd.R_append k41 (w0 := w) w.heap.size rfl (.tmp 24) (.tmp 26) 25 41 (.agg #[(.int .i64 0), (.bool false), (.int .i64 0), (.int .i64 0)]) 32 rfl Try.underlying25 info41 rfl (by decide) (by omega) u5 acc x [.int .i64 x.f0, .bool x.f1, .int .i64 x.f2, .int .i64 x.f3] (fun k => w.heap.size < k) (fun _ => False) rfl rfl ?aP (fun _ hk => hk.elim) ?aF ?aO ?aB ?aS ?aL ?_; (case aP => exact k41_mkM _ _ _ x); (case aF => exact fun k_ hk => Nat.lt_of_lt_of_le HS3.out hk); (case aO => exact HO3.out); (case aB => exact HB3.out); (case aS => exact below_size HB3.out); (case aL => have := HAL.out; have := HLT.out; have := LM.out; omega); intro v1 w4 ho hb hg hat; have HO4 := Aside0.mk ho; have HB4 := Aside0.mk hb; have HK4 := Aside0.mk ((World.cell?_of_block (a := ⟨w.heap.size, 0, none⟩) (hg.block w.heap.size HS3.out (fun q => Nat.lt_irrefl _ (HO3.out.1 _ q.symm)))).trans HK3.out); clear ho hb hg hat))
    go_roundg (l0.length - (kk + 1))
    case measure => have := HLT.out; have := HM.out; omega
    case rel => exact ⟨kk + 1, acc ++ [x], by rw [show wrap64 ((kk : Int) + 1) = ((kk + 1 : Nat) : Int) by unfold wrap64; have := HLT.out; omega], ⟨by have := HLT.out; omega⟩, ⟨by omega⟩, ⟨by have := HAL.out; simp; omega⟩, ⟨by rw [show l0.length - (kk + 1) = m by have := HMM.out; omega]; exact HG1.out⟩, HO4, HB4, HK4⟩
   ·have c4b0 : decide (0 ≤ t) = false := decide_eq_false c4
    rw [if_neg c4] at hG
    have HG1 := Aside0.mk hG
    clear hG c4
    go_wp2_with (first | (go_at_call 37; refine (impl_end.calls k (some ad1) c0 l0 (kk : Int) e _ (Kd.C_alloc (Kd.C_below HR.out HB.out) _) HC.out HE.out).mono ?_; rintro e' w2 ⟨rfl, hb⟩; replace hb := Drawn0.below hb; have HB2 := Aside0.mk (below_step (below_alloc HB.out _) hb); have HBR := Aside0.mk hb; have HK2 := Aside0.mk ((hb.cell (p := ⟨w.heap.size, 0, none⟩) (by simp; omega)).trans (cell_old wr _ hs0)); have HS2 := Aside0.mk (show w.heap.size < w2.heap.size by have := hb.size; simp at this; omega); clear hb hs0) | (have hcf := impl_Part_36.calls 38 #[.pointer (some ⟨w.heap.size, 0, none⟩)] eg38 (impl_with.q p) Aj (c0 - kk) sg t w2 (Kd.C_below HR2.out (below_step (below_alloc (Below.refl wr.heap.size wr) _) HBR.out)) (by rw [HL2.out]; have := HC.out; have := HCC.out; omega) (fun W y b hbW hy => impl_with.clo gf lb eg p w.heap.size W y b ((hbW.cell (p := ⟨w.heap.size, 0, none⟩) HS2.out).trans HK2.out) (fun W' b' hb' hpy => HP.out W' y b' (below_step (below_step HB2.out hbW) hb') hpy) hy) HT.out; rw [HL2.out] at hcf; go_at_call 36; refine hcf.mono ?_; clear hcf; rintro e' w3 ⟨rfl, hb⟩; have HB3 := Aside0.mk (below_step HB2.out hb); have HK3 := Aside0.mk ((hb.cell (p := ⟨w.heap.size, 0, none⟩) HS2.out).trans HK2.out); have hbk : w3.heap[wr.heap.size]? = some (.cells #[.int .i64 x.f0, .bool x.f1, .int .i64 x.f2, .int .i64 x.f3] 41 (0, 0)) := (hb.block wr.heap.size (by have := HBR.out.size; simp at this; omega)).trans ((HBR.out.block wr.heap.size (by simp)).trans (heap_alloc_new wr _)); have hp0 : w3.cell? ⟨wr.heap.size, 0, none⟩ = some (.int .i64 x.f0) := (blk_cell hbk 0).trans rfl; have hp1 : w3.cell? ⟨wr.heap.size, 1, none⟩ = some (.bool x.f1) := (blk_cell hbk 1).trans rfl; have hp2 : w3.cell? ⟨wr.heap.size, 2, none⟩ = some (.int .i64 x.f2) := (blk_cell hbk 2).trans rfl; have hp3 : w3.cell? ⟨wr.heap.size, 3, none⟩ = some (.int .i64 x.f3) := (blk_cell hbk 3).trans rfl; have HO3 := Aside0.mk (Kd.R_below (Kd.R_below (Kd.R_alloc HO.out _) HBR.out) hb); have HS3 := Aside0.mk (Nat.lt_of_lt_of_le HS2.out hb.size); clear hb hbk))
    go_roundg (l0.length - (kk + 1))
    case measure => have := HLT.out; have := HM.out; omega
    case rel => exact ⟨kk + 1, acc, by rw [show wrap64 ((kk : Int) + 1) = ((kk + 1 : Nat) : Int) by unfold wrap64; have := HLT.out; omega], ⟨by have := HLT.out; omega⟩, ⟨by omega⟩, ⟨by have := HAL.out; omega⟩, ⟨by rw [show l0.length - (kk + 1) = m by have := HMM.out; omega]; exact HG1.out⟩, HO3, HB3, HK3⟩
  ·have c2b0 : decide ((kk : Int) < (l0.length : Int)) = false := decide_eq_false (by omega)
   have c2b1 : decide (kk < l0.length) = false := decide_eq_false hlt
   have hG := HG.out
   rw [show l0.length - kk = 0 by omega] at hG
   obtain rfl := Option.some.inj hG
   obtain ⟨Ao, co, eo⟩ := Kd.R_slice HO.out
   subst eo
   have HLE := Aside0.mk (Kd.R_reads' HO.out).2.1
   go_wp2_with (go_at_call 39; refine (impl_with.clip Ao _ co HLE.out _).mono ?_; rintro e w4 ⟨rfl, rfl⟩)
   go_ret
   exact ⟨_, rfl, Kd.R_mono (Kd.R_clip HO.out (Nat.le_refl _) HLE.out) (fun _ _ => trivial), HB.out⟩
def slices_Index_int_int.l0 : Nat → List Int → Int → Int → Int → Option (Int)
 | 0, _, _, _, _ => none
 | k + 1, x0, x1, x7, x8 => if x8 < x7 then (if 0 ≤ x8 then (if x8 < (x0.length : Int) then (if x1 = (rd x0 x8) then (some x8) else (slices_Index_int_int.l0 k x0 x1 x7 (wrap64 (x8 + 1)))) else (none)) else (none)) else (some (-1))
def slices_Index_int_int.f (k : Nat) (l0 : List Int) (a1 : Int) : Option (Int) := slices_Index_int_int.l0 k l0 a1 (l0.length : Int) 0
set_option maxHeartbeats 8000000 in
set_option maxRecDepth 100000 in
theorem slices_Index_int_int.calls (k : Nat) (A0 : Option Addr) (c0 : Nat) (l0 : List Int) (a1 : Int) (r : Int) (w : World) (hr0 : Kd.C (Kd.int .i64) w A0 l0.length l0) (hc0 : l0.length ≤ c0) (h : slices_Index_int_int.f k l0 a1 = some r) :
  Calls Try.prog 46 #[.slice A0 l0.length c0, .int .i64 a1] w fun e w' => e = .returned (.int .i64 r) ∧ Drawn0 w w' := by
 have HR0 := Aside0.mk hr0
 have HC0 := Aside0.mk hc0
 clear hr0 hc0
 have H : (slices_Index_int_int.l0 k l0 a1 (l0.length : Int) 0) = some r := h
 clear h
 have H' := Aside0.mk H
 clear H
 go_enter Try.func46, Try.ntmps46
 go_wp2
 go_loopg [8] k (fun kq v8 w' => ∃ (x8_1 : Int), v8 = .int .i64 x8_1 ∧ Aside0 (slices_Index_int_int.l0 kq l0 a1 (l0.length : Int) x8_1 = some r) ∧ Aside0 (kq ≤ k) ∧ Drawn0 w w')
 case atStart => exact ⟨(0), (by first | rfl | (simp; done) | (simp [*]; done)), H', ⟨Nat.le_refl _⟩, by repeat (first | exact Drawn0.refl _ | apply Drawn0.step)⟩
 case round =>
  clear H'
  try clear p2
  obtain ⟨x8_1, rfl, HA, HK1, ⟨m1, rfl⟩⟩ := hrel
  cases gk with
  | zero => exact absurd HA.out (by simp [slices_Index_int_int.l0])
  | succ k1 =>
   have H := HA.out
   clear HA
   simp only [slices_Index_int_int.l0] at H
   by_cases c3 : x8_1 < (l0.length : Int)
   ·rw [if_pos c3] at H
    have c3b0 : decide (x8_1 < (l0.length : Int)) = true := decide_eq_true c3
    clear c3
    by_cases c4 : 0 ≤ x8_1
    ·rw [if_pos c4] at H
     have c4b0 : decide (0 ≤ x8_1) = true := decide_eq_true c4
     clear c4
     by_cases c5 : x8_1 < (l0.length : Int)
     ·rw [if_pos c5] at H
      have c5b0 : decide (x8_1 < (l0.length : Int)) = true := decide_eq_true c5
      clear c5
      by_cases c6 : a1 = (rd l0 x8_1)
      ·rw [if_pos c6] at H
       have c6b0 : (a1 == (rd l0 x8_1)) = true := beq_iff_eq.mpr c6
       have c6b1 : (a1 != (rd l0 x8_1)) = false := bne_eq_false_iff_eq.mpr c6
       clear c6
       obtain rfl := Option.some.inj H
       have p132 : 0 ≤ (x8_1 : Int) := of_decide_eq_true (by first | (with_reducible assumption) | assumption)
       have q132 : x8_1 < (l0.length : Int) := of_decide_eq_true (by first | (with_reducible assumption) | assumption)
       obtain ⟨ad132, e132, hx132_0⟩ := Kd.at_int HR0.out x8_1 p132 q132
       cases e132
       replace p132 := eq_true p132
       replace q132 := eq_true q132
       go_wp2
       go_ret
       exact ⟨by first | rfl | (simp; done) | (simp [*]; done), by repeat (first | exact Drawn0.refl _ | apply Drawn0.step)⟩
      ·rw [if_neg c6] at H
       have c6b0 : (a1 == (rd l0 x8_1)) = false := beq_eq_false_iff_ne.mpr c6
       have c6b1 : (a1 != (rd l0 x8_1)) = true := bne_iff_ne.mpr c6
       have H' := Aside0.mk H
       clear H
       have p132 : 0 ≤ (x8_1 : Int) := of_decide_eq_true (by first | (with_reducible assumption) | assumption)
       have q132 : x8_1 < (l0.length : Int) := of_decide_eq_true (by first | (with_reducible assumption) | assumption)
       obtain ⟨ad132, e132, hx132_0⟩ := Kd.at_int HR0.out x8_1 p132 q132
       cases e132
       replace p132 := eq_true p132
       replace q132 := eq_true q132
       go_wp2
       go_roundg k1
       case measure => have := HK1.out; omega
       case rel => exact ⟨(wrap64 (x8_1 + 1)), (by first | rfl | (simp; done) | (simp [*]; done)), H', ⟨by have := HK1.out; omega⟩, by repeat (first | exact Drawn0.refl _ | apply Drawn0.step)⟩
     ·rw [if_neg c5] at H
      exact absurd H (by simp)
    ·rw [if_neg c4] at H
     exact absurd H (by simp)
   ·rw [if_neg c3] at H
    have c3b0 : decide (x8_1 < (l0.length : Int)) = false := decide_eq_false c3
    clear c3
    obtain rfl := Option.some.inj H
    go_wp2
    go_ret
    exact ⟨by first | rfl | (simp; done) | (simp [*]; done), by repeat (first | exact Drawn0.refl _ | apply Drawn0.step)⟩
def slices_Contains_int_int.f (k : Nat) (l0 : List Int) (a1 : Int) : Option (Bool) := (slices_Index_int_int.f k l0 a1).bind fun t133 => (some (decide (t133 ≥ 0)))
set_option maxHeartbeats 8000000 in
set_option maxRecDepth 100000 in
theorem slices_Contains_int_int.calls (k : Nat) (A0 : Option Addr) (c0 : Nat) (l0 : List Int) (a1 : Int) (r : Bool) (w : World) (hr0 : Kd.C (Kd.int .i64) w A0 l0.length l0) (hc0 : l0.length ≤ c0) (h : slices_Contains_int_int.f k l0 a1 = some r) :
  Calls Try.prog 34 #[.slice A0 l0.length c0, .int .i64 a1] w fun e w' => e = .returned (.bool r) ∧ Drawn0 w w' := by
 have HR0 := Aside0.mk hr0
 have HC0 := Aside0.mk hc0
 clear hr0 hc0
 have H : ((slices_Index_int_int.f k l0 a1).bind fun t133 => (some (decide (t133 ≥ 0)))) = some r := h
 clear h
 replace H := Option.bind_eq_some_iff.mp H
 obtain ⟨t133, A30, H⟩ := H
 replace H : (some (decide (t133 ≥ 0))) = some r := H
 have A3 := Aside0.mk A30
 clear A30
 obtain rfl := Option.some.inj H
 go_enter Try.func34, Try.ntmps34
 go_wp2_with (first | ((with_reducible refine gate_callee (f := 46) rfl ?_); refine goesL_ (some 7) rfl rfl Try.func46 (by kernel_rfl) rfl #[.slice A0 l0.length c0, .int .i64 a1] rfl (by (try simp only [List.map_toArray, List.map_cons, List.map_nil]); first | done | rfl | (simp only [List.length_drop, List.length_take]; rfl)) ?_; (with_reducible refine (slices_Index_int_int.calls k _ _ l0 a1 t133 _ ?side1 ?side2 A3.out).mono ?_); (case side1 => repeat (first | exact HR0.out | (with_reducible refine Kd.C_alloc ?_ _) | (with_reducible refine Kd.C_drewN ?_ _) | (with_reducible refine Kd.C_drew ?_))); (case side2 => exact HC0.out); rintro e w' ⟨rfl, ⟨nd, rfl⟩⟩; refine ⟨_, rfl, ?_⟩))
 go_ret
 exact ⟨by first | rfl | (simp; done) | (simp [*]; done), by repeat (first | exact Drawn0.refl _ | apply Drawn0.step)⟩
def impl_Tree_above.l0 : Nat → Int → List Int → List (S51) → Option (List Int)
 | 0, _, _, _ => none
 | k + 1, x1, x5, x135000 => if x1 ≥ 0 then (if x5.length < 17592186044416 then (if 0 ≤ x1 then (if x1 < (x135000.length : Int) then (impl_Tree_above.l0 k ((rd_T51 x135000 x1).f1) (x5 ++ [x1]) x135000) else (none)) else (none)) else (none)) else (some x5)
def impl_Tree_above.f (k : Nat) (l0_0 : List (S51)) (a1 : Int) : Option (List Int) := if 0 ≤ (l0_0.length : Int) then (if ((l0_0.length : Int) : Int).toNat ≤ 35184372088832 then (impl_Tree_above.l0 k a1 (([] : List Int)) l0_0) else (none)) else (none)
set_option maxHeartbeats 8000000 in
set_option maxRecDepth 100000 in
theorem impl_Tree_above.calls (k : Nat) (A0_0 : Option Addr) (c0_0 : Nat) (l0_0 : List (S51)) (a1 : Int) (r : List Int) (w : World) (hr0_0 : Kd.C k51 w A0_0 l0_0.length l0_0) (hc0_0 : l0_0.length ≤ c0_0) (h : impl_Tree_above.f k l0_0 a1 = some r) :
  Calls Try.prog 35 #[.agg #[.slice A0_0 l0_0.length c0_0], .int .i64 a1] w fun e w' => ∃ v0_ : Value, e = .returned (v0_) ∧ Kd.R (Kd.int .i64) 3 w' w.heap.size (fun _ => True) v0_ r ∧ Below w.heap.size w w' := by
 have hu24 := Try.underlying24
 have HR0_0 := Aside0.mk hr0_0
 have HC0_0 := Aside0.mk hc0_0
 clear hr0_0 hc0_0
 have HB := Aside0.mk (Below.refl w.heap.size w)
 have H : (if 0 ≤ (l0_0.length : Int) then (if ((l0_0.length : Int) : Int).toNat ≤ 35184372088832 then (impl_Tree_above.l0 k a1 (([] : List Int)) l0_0) else (none)) else (none)) = some r := h
 clear h
 by_cases c3 : 0 ≤ (l0_0.length : Int)
 ·rw [if_pos c3] at H
  have c3b0 := eq_true c3
  have c3b1 : decide (0 ≤ (l0_0.length : Int)) = true := decide_eq_true c3
  clear c3
  by_cases c4 : ((l0_0.length : Int) : Int).toNat ≤ 35184372088832
  ·rw [if_pos c4] at H
   have c4b0 := eq_true c4
   have c4b1 : decide (((l0_0.length : Int) : Int).toNat ≤ 35184372088832) = true := decide_eq_true c4
   clear c4
   obtain ⟨y135, hy135⟩ : ∃ y_ : List Int, y_ = (([] : List Int)) := ⟨_, rfl⟩
   replace H : (impl_Tree_above.l0 k a1 y135 l0_0) = some r := by first | (rw [hy135]; with_reducible exact H) | (have H2_ := (Option.bind_some _ _).symm.trans H; rw [hy135]; with_reducible exact H2_) | (have H2_ := (Option.bind_some _ _).symm.trans H; with_reducible exact H2_) | with_reducible exact H | (rw [hy135]; exact H) | exact H
   have Ny135 := Aside0.mk hy135
   clear hy135
   have H' := Aside0.mk H
   clear H
   go_enter Try.func35, Try.ntmps35
   go_wp2_with (first | ((with_reducible refine gate_dst (N := 2) rfl ?_); refine box_event ?hg (N := 2) ?hd (cs := #[.slice A0_0 l0_0.length c0_0]) (t := 24) ?hr ?_; (case hd => rfl); (case hg => rfl); (case hr => first | (go_simp; done) | (go_simp; rfl)); intro gb134 hg w5 hbox hb; have n0_ := Aside0.mk (below_step (by repeat (first | (with_reducible first | exact HB.out | apply below_alloc | apply pw_below_drewN | apply below_drew1) | exact HB.out)) hb); have n1_ := Aside0.mk (hbox); have n2_ := Aside0.mk ((by rw [hg]; exact (below_size (by repeat (first | (with_reducible first | exact HB.out | apply below_alloc | apply pw_below_drewN | apply below_drew1) | exact HB.out))) : w.heap.size ≤ gb134)); have n3_ := Aside0.mk ((by rw [hg]; exact (below_size (by repeat (first | (with_reducible first | exact HB.out | apply below_alloc | apply pw_below_drewN | apply below_drew1) | exact HB.out))) : w.heap.size ≤ gb134)); clear HB; have HB := n0_; have BK134 := n1_; have GW134 := n2_; have GE134 := n3_; clear n0_ n1_ n2_ n3_; clear hb hbox hg; have hcz6_0 : w5.cell? ⟨gb134, 0, none⟩ = some (.slice A0_0 l0_0.length c0_0) := (blk_cell BK134.out 0).trans rfl; have hfz6_0 := blk_frozen BK134.out 0) | ((with_reducible refine gate_dst (N := 9) rfl ?_); refine Kd.R_make0 (Kd.int .i64) _ 3 rfl (N := 9) rfl 54 _ _ rfl (l0_0.length : Int) rfl rfl Try.underlying54 (.int .i64 0) 8 info3 rfl (by decide) (by omega) 0 (ok := fun _ => True) (okp := fun _ => True) rfl (fun _ hk => hk) trivial (of_decide_eq_true (by first | (with_reducible assumption) | assumption)) (Nat.le_trans (Nat.mul_le_mul_right _ (of_decide_eq_true (by first | (with_reducible assumption) | assumption) : (l0_0.length : Int).toNat ≤ 35184372088832)) (by omega)) (Below.refl _ _) (Nat.le_refl _) ?_; intro v136 w7 ho8 hb hg_ hnew_; clear hg_ hnew_; (first | rw [← Ny135.out] at ho8 | (simp only [Int.reduceToNat] at ho8; rw [← Ny135.out] at ho8)); have n0_ := Aside0.mk (Kd.R_lower ho8 (below_size (by repeat (first | (with_reducible first | exact HB.out | apply below_alloc | apply pw_below_drewN | apply below_drew1 | refine below_set ?_ GE134.out) | exact HB.out)))); have n1_ := Aside0.mk (blk_below (g := gb134) (o := .cells #[.slice A0_0 l0_0.length c0_0] 24 (0, 0)) (by (with_reducible repeat (first | refine blk_drewN ?_ _ | refine blk_drew ?_ | refine blk_alloc ?_ _)); exact BK134.out) hb); have n2_ := Aside0.mk (below_step (by repeat (first | (with_reducible first | exact HB.out | apply below_alloc | apply pw_below_drewN | apply below_drew1 | refine below_set ?_ GE134.out) | exact HB.out)) hb); clear BK134; clear HB; have HO137 := n0_; have BK134 := n1_; have HB := n2_; clear n0_ n1_ n2_; clear hb ho8))
   go_loopg [1, 5] k (fun kq v1 v5 w' => ∃ (x1_1 : Int) (x5_1 : List Int), v1 = .int .i64 x1_1 ∧ Aside0 (impl_Tree_above.l0 kq x1_1 x5_1 l0_0 = some r) ∧ Aside0 (kq ≤ k) ∧ Aside0 (Kd.R (Kd.int .i64) 3 w' w.heap.size (fun _ => True) v5 x5_1) ∧ Aside0 (w'.heap[gb134]? = some (.cells #[(.slice A0_0 l0_0.length c0_0)] 24 (0, 0))) ∧ Aside0 (Below w.heap.size w w'))
   case atStart => exact ⟨(a1), (y135), (by first | rfl | (simp; done) | (simp [*]; done)), H', ⟨Nat.le_refl _⟩, ⟨by (with_reducible repeat (first | apply Kd.R_alloc | apply Kd.R_drewN | apply Kd.R_drew)); exact HO137.out⟩, ⟨by (with_reducible repeat (first | refine blk_drewN ?_ _ | refine blk_drew ?_ | refine blk_alloc ?_ _)); exact BK134.out⟩, ⟨by repeat (first | (with_reducible first | exact HB.out | apply below_alloc | apply pw_below_drewN | apply below_drew1 | refine below_set ?_ GE134.out) | exact HB.out)⟩⟩
   case round =>
    clear H'
    try clear p2
    try clear c3
    try clear c3b0
    try clear c3b1
    try clear c4
    try clear c4b0
    try clear c4b1
    try clear hcz6_0
    try clear hfz6_0
    obtain ⟨x1_1, x5_1, rfl, HA, HK1, HO_5, BK134, HB⟩ := hrel
    cases gk with
    | zero => exact absurd HA.out (by simp [impl_Tree_above.l0])
    | succ k1 =>
     have H := HA.out
     clear HA
     simp only [impl_Tree_above.l0] at H
     by_cases c9 : x1_1 ≥ 0
     ·rw [if_pos c9] at H
      have c9b0 : decide (0 ≤ x1_1) = true := decide_eq_true c9
      clear c9
      by_cases c10 : x5_1.length < 17592186044416
      ·rw [if_pos c10] at H
       have LMc10 := Aside0.mk c10
       clear c10
       obtain ⟨y138, hy138⟩ : ∃ y_ : List Int, y_ = (x5_1 ++ [x1_1]) := ⟨_, rfl⟩
       replace H : (if 0 ≤ x1_1 then (if x1_1 < (l0_0.length : Int) then (impl_Tree_above.l0 k1 ((rd_T51 l0_0 x1_1).f1) y138 l0_0) else (none)) else (none)) = some r := by first | (rw [hy138]; with_reducible exact H) | (have H2_ := (Option.bind_some _ _).symm.trans H; rw [hy138]; with_reducible exact H2_) | (have H2_ := (Option.bind_some _ _).symm.trans H; with_reducible exact H2_) | with_reducible exact H | (rw [hy138]; exact H) | exact H
       have Ny138 := Aside0.mk hy138
       clear hy138
       by_cases c11 : 0 ≤ x1_1
       ·rw [if_pos c11] at H
        have c11b0 : decide (0 ≤ x1_1) = true := decide_eq_true c11
        clear c11
        by_cases c12 : x1_1 < (l0_0.length : Int)
        ·rw [if_pos c12] at H
         have c12b0 : decide (x1_1 < (l0_0.length : Int)) = true := decide_eq_true c12
         clear c12
         have H' := Aside0.mk H
         clear H
         go_wp2_with (first | ((with_reducible refine gate_builtin (b := .append) (xs := #[.tmp 18, .tmp 20]) rfl ?_); at_builtin; refine Kd.R_append (Kd.int .i64) (w0 := w) w.heap.size rfl (.tmp 18) (.tmp 20) 54 3 (.int .i64 0) 8 rfl Try.underlying54 info3 rfl (by decide) (by omega) u5 x5_1 x1_1 [.int .i64 x1_1] (fun _ => True) (fun _ => False) rfl rfl ?aP (fun _ hk => hk.elim) ?aF ?aO ?aB ?aS ?aL ?_; (case aP => exact rfl); (case aB => exact (by repeat (first | (with_reducible first | exact HB.out | apply below_alloc | apply pw_below_drewN | apply below_drew1 | refine below_set ?_ GE134.out) | exact HB.out))); (case aF => exact (fun _ _ => trivial)); (case aO => exact (by (with_reducible repeat (first | apply Kd.R_alloc | apply Kd.R_drewN | apply Kd.R_drew)); exact HO_5.out)); (case aS => exact (below_size (by repeat (first | (with_reducible first | exact HB.out | apply below_alloc | apply pw_below_drewN | apply below_drew1 | refine below_set ?_ GE134.out) | exact HB.out)))); (case aL => have := LMc10.out; omega); intro v139 w13 ho hb hg hat; rw [← Ny138.out] at ho; have n0_ := Aside0.mk (blk_grown (g := gb134) (o := .cells #[.slice A0_0 l0_0.length c0_0] 24 (0, 0)) (by (with_reducible repeat (first | refine blk_drewN ?_ _ | refine blk_drew ?_ | refine blk_alloc ?_ _)); exact BK134.out) hg (Kd.R_ne HO_5.out BK134.out (by decide))); have n1_ := Aside0.mk (hb); have n2_ := Aside0.mk (ho); clear BK134; clear HB; clear HO_5; have BK134 := n0_; have HB := n1_; have HO140 := n2_; clear n0_ n1_ n2_; clear ho hb hg hat; have hcz14_0 : w13.cell? ⟨gb134, 0, none⟩ = some (.slice A0_0 l0_0.length c0_0) := (blk_cell BK134.out 0).trans rfl; have hfz14_0 := blk_frozen BK134.out 0; have p141 : 0 ≤ (x1_1 : Int) := of_decide_eq_true (by first | (with_reducible assumption) | assumption); have q141 : x1_1 < (l0_0.length : Int) := of_decide_eq_true (by first | (with_reducible assumption) | assumption); obtain ⟨ad141, e141, hx141_0, hx141_1⟩ := at_T51 HR0_0.out x1_1 p141 q141; cases e141; replace hx141_0 := (HB.out.cell (World.block_lt_of_cell? w _ hx141_0)).trans hx141_0; replace hx141_1 := (HB.out.cell (World.block_lt_of_cell? w _ hx141_1)).trans hx141_1; replace p141 := eq_true p141; replace q141 := eq_true q141))
         go_roundg k1
         case measure => have := HK1.out; omega
         case rel => exact ⟨((rd_T51 l0_0 x1_1).f1), (y138), (by first | rfl | (simp; done) | (simp [*]; done)), H', ⟨by have := HK1.out; omega⟩, ⟨by (with_reducible repeat (first | apply Kd.R_alloc | apply Kd.R_drewN | apply Kd.R_drew)); exact HO140.out⟩, ⟨by (with_reducible repeat (first | refine blk_drewN ?_ _ | refine blk_drew ?_ | refine blk_alloc ?_ _)); exact BK134.out⟩, ⟨by repeat (first | (with_reducible first | exact HB.out | apply below_alloc | apply pw_below_drewN | apply below_drew1 | refine below_set ?_ GE134.out) | exact HB.out)⟩⟩
        ·rw [if_neg c12] at H
         exact absurd H (by simp)
       ·rw [if_neg c11] at H
        exact absurd H (by simp)
      ·rw [if_neg c10] at H
       exact absurd H (by simp)
     ·rw [if_neg c9] at H
      have c9b0 : decide (0 ≤ x1_1) = false := decide_eq_false c9
      clear c9
      obtain rfl := Option.some.inj H
      obtain ⟨Ao15, co15, eo15⟩ := Kd.R_slice HO_5.out
      subst eo15
      obtain ⟨i016, hi016, _, hsz16, _⟩ := info_parts info3
      have hl16 := (Kd.R_reads' HO_5.out).1
      have hc16 := (Kd.R_reads' HO_5.out).2.1
      have hcut16 := cut_clip (P := Try.prog) 54 3 .i64 .i64 Try.underlying54 hi016 Ao15 x5_1.length co15 x5_1.length (by omega) (by omega)
      have hr16 := Kd.R_clip (c' := x5_1.length) HO_5.out (by omega) (by omega)
      clear hl16 hc16 hi016 hsz16 HO_5
      have HO143 := Aside0.mk hr16
      clear hr16
      go_wp2
      go_ret
      exact ⟨_, by first | rfl | (simp [errW_none, errW_some] <;> rfl) | (simp [*, errW_none, errW_some] <;> rfl), by (with_reducible repeat (first | apply Kd.R_alloc | apply Kd.R_drewN | apply Kd.R_drew)); exact HO143.out, by repeat (first | (with_reducible first | exact HB.out | apply below_alloc | apply pw_below_drewN | apply below_drew1 | refine below_set ?_ GE134.out) | exact HB.out)⟩
  ·rw [if_neg c4] at H
   exact absurd H (by simp)
 ·rw [if_neg c3] at H
  exact absurd H (by simp)
def impl_Tree_is.f (k : Nat) (l0_0 : List (S51)) (a1 : Int) (a2 : Int) : Option (Bool) := (impl_Tree_above.f k l0_0 a1).bind fun t145 => ((slices_Contains_int_int.f k t145 a2).bind fun t148 => (some t148))
set_option maxHeartbeats 8000000 in
set_option maxRecDepth 100000 in
theorem impl_Tree_is.calls (k : Nat) (A0_0 : Option Addr) (c0_0 : Nat) (l0_0 : List (S51)) (a1 : Int) (a2 : Int) (r : Bool) (w : World) (hr0_0 : Kd.C k51 w A0_0 l0_0.length l0_0) (hc0_0 : l0_0.length ≤ c0_0) (h : impl_Tree_is.f k l0_0 a1 a2 = some r) :
  Calls Try.prog 20 #[.agg #[.slice A0_0 l0_0.length c0_0], .int .i64 a1, .int .i64 a2] w fun e w' => e = .returned (.bool r) ∧ Below w.heap.size w w' := by
 have hu24 := Try.underlying24
 have HR0_0 := Aside0.mk hr0_0
 have HC0_0 := Aside0.mk hc0_0
 clear hr0_0 hc0_0
 have HB := Aside0.mk (Below.refl w.heap.size w)
 have H : ((impl_Tree_above.f k l0_0 a1).bind fun t145 => ((slices_Contains_int_int.f k t145 a2).bind fun t148 => (some t148))) = some r := h
 clear h
 replace H := Option.bind_eq_some_iff.mp H
 obtain ⟨t145, A40, H⟩ := H
 replace H : ((slices_Contains_int_int.f k t145 a2).bind fun t148 => (some t148)) = some r := H
 have A4 := Aside0.mk A40
 clear A40
 replace H := Option.bind_eq_some_iff.mp H
 obtain ⟨t148, A50, H⟩ := H
 replace H : (some t148) = some r := H
 have A5 := Aside0.mk A50
 clear A50
 obtain rfl := Option.some.inj H
 go_enter Try.func20, Try.ntmps20
 go_wp2_with (first | ((with_reducible refine gate_dst (N := 3) rfl ?_); refine box_event ?hg (N := 3) ?hd (cs := #[.slice A0_0 l0_0.length c0_0]) (t := 24) ?hr ?_; (case hd => rfl); (case hg => rfl); (case hr => first | (go_simp; done) | (go_simp; rfl)); intro gb144 hg w6 hbox hb; have n0_ := Aside0.mk (below_step (by repeat (first | (with_reducible first | exact HB.out | apply below_alloc | apply pw_below_drewN | apply below_drew1) | exact HB.out)) hb); have n1_ := Aside0.mk (hbox); have n2_ := Aside0.mk ((by rw [hg]; exact (below_size (by repeat (first | (with_reducible first | exact HB.out | apply below_alloc | apply pw_below_drewN | apply below_drew1) | exact HB.out))) : w.heap.size ≤ gb144)); have n3_ := Aside0.mk ((by rw [hg]; exact (below_size (by repeat (first | (with_reducible first | exact HB.out | apply below_alloc | apply pw_below_drewN | apply below_drew1) | exact HB.out))) : w.heap.size ≤ gb144)); clear HB; have HB := n0_; have BK144 := n1_; have GW144 := n2_; have GE144 := n3_; clear n0_ n1_ n2_ n3_; clear hb hbox hg; have hcz7_0 : w6.cell? ⟨gb144, 0, none⟩ = some (.slice A0_0 l0_0.length c0_0) := (blk_cell BK144.out 0).trans rfl; have hfz7_0 := blk_frozen BK144.out 0) | ((with_reducible refine gate_callee (f := 35) rfl ?_); refine goesL_ (some 9) rfl rfl Try.func35 (by kernel_rfl) rfl #[.agg #[.slice A0_0 l0_0.length c0_0], .int .i64 a1] rfl (by (try simp only [List.map_toArray, List.map_cons, List.map_nil]); first | done | rfl | (simp only [List.length_drop, List.length_take]; rfl)) ?_; (with_reducible refine (impl_Tree_above.calls k _ _ l0_0 a1 t145 _ ?side1 ?side2 A4.out).mono ?_); (case side1 => repeat (first | exact (Kd.C_below HR0_0.out HB.out) | (with_reducible refine Kd.C_alloc ?_ _) | (with_reducible refine Kd.C_drewN ?_ _) | (with_reducible refine Kd.C_drew ?_))); (case side2 => exact HC0_0.out); rintro e w8 ⟨v146, rfl, ho0, hb⟩; refine ⟨_, rfl, ?_⟩; have n0_ := Aside0.mk (Kd.R_lower ho0 (below_size (by repeat (first | (with_reducible first | exact HB.out | apply below_alloc | apply pw_below_drewN | apply below_drew1 | refine below_set ?_ GE144.out) | exact HB.out)))); have n1_ := Aside0.mk (blk_below (g := gb144) (o := .cells #[.slice A0_0 l0_0.length c0_0] 24 (0, 0)) (by (with_reducible repeat (first | refine blk_drewN ?_ _ | refine blk_drew ?_ | refine blk_alloc ?_ _)); exact BK144.out) hb); have n2_ := Aside0.mk (below_step (by repeat (first | (with_reducible first | exact HB.out | apply below_alloc | apply pw_below_drewN | apply below_drew1 | refine below_set ?_ GE144.out) | exact HB.out)) hb); clear BK144; clear HB; have HO147 := n0_; have BK144 := n1_; have HB := n2_; clear n0_ n1_ n2_; (try clear hb); (try clear hb2); (try clear hk); (try clear hi); (try clear ho0); obtain ⟨Ao9, co9, eo9⟩ := Kd.R_slice HO147.out; subst eo9) | ((with_reducible refine gate_callee (f := 34) rfl ?_); refine goesL_ (some 11) rfl rfl Try.func34 (by kernel_rfl) rfl #[.slice Ao9 t145.length co9, .int .i64 a2] rfl (by (try simp only [List.map_toArray, List.map_cons, List.map_nil]); first | done | rfl | (simp only [List.length_drop, List.length_take]; rfl)) ?_; (with_reducible refine (slices_Contains_int_int.calls k _ _ t145 a2 t148 _ ?side1 ?side2 A5.out).mono ?_); (case side1 => repeat (first | exact (Kd.R_reads' HO147.out).2.2 | (with_reducible refine Kd.C_alloc ?_ _) | (with_reducible refine Kd.C_drewN ?_ _) | (with_reducible refine Kd.C_drew ?_))); (case side2 => exact (Kd.R_reads' HO147.out).2.1); rintro e w' ⟨rfl, ⟨nd, rfl⟩⟩; refine ⟨_, rfl, ?_⟩))
 go_ret
 exact ⟨by first | rfl | (simp [errW_none, errW_some] <;> rfl) | (simp [*, errW_none, errW_some] <;> rfl), by repeat (first | (with_reducible first | exact HB.out | apply below_alloc | apply pw_below_drewN | apply below_drew1 | refine below_set ?_ GE144.out) | exact HB.out)⟩
def impl_Tree_split.p1 (k : Nat) (l0_0 : List (S51)) (a2 : Int) (x : S41) : Option Bool := impl_Tree_is.f k l0_0 x.f2 a2
def impl_Tree_split.p2 (k : Nat) (l0_0 : List (S51)) (a2 : Int) (x : S41) : Option Bool := (impl_Tree_is.f k l0_0 x.f2 a2).bind fun b => some (!b)
def impl_Tree_split.f (k : Nat) (l0_0 : List (S51)) (l1 : List (S41)) (a2 : Int) : Option (List (S41) × List (S41)) := (impl_with.f k (impl_Tree_split.p1 k l0_0 a2) l1).bind fun r1 => (impl_with.f k (impl_Tree_split.p2 k l0_0 a2) l1).bind fun r2 => some (r1, r2)
set_option maxHeartbeats 1600000 in
set_option maxRecDepth 100000 in
theorem impl_Tree_split.clo1 (k : Nat) (A0 : Option Addr) (c0 : Nat) (l0 : List (S51)) (a : Int) (x : S41) (b : Bool) (B B2 : Nat) (W : World) (hr : Kd.C k51 W A0 l0.length l0) (hc : l0.length ≤ c0) (hcell : W.cell? ⟨B, 0, none⟩ = some (.slice A0 l0.length c0)) (hcell2 : W.cell? ⟨B2, 0, none⟩ = some (.int .i64 a)) (h : impl_Tree_split.p1 k l0 a x = some b) :
  Calls Try.prog 23 (#[.agg #[.int .i64 x.f0, .bool x.f1, .int .i64 x.f2, .int .i64 x.f3]] ++ #[.pointer (some ⟨B, 0, none⟩), .pointer (some ⟨B2, 0, none⟩)]) W fun e W' => e = .returned (.bool b) ∧ Below W.heap.size W W' := by
 have hu24 := Try.underlying24
 have hu41 := Try.underlying41
 unfold impl_Tree_split.p1 at h
 have HB := Aside0.mk (below_alloc (Below.refl W.heap.size W) (.cells #[.int .i64 x.f0, .bool x.f1, .int .i64 x.f2, .int .i64 x.f3] 41))
 have hne : B ≠ W.heap.size := Nat.ne_of_lt (World.block_lt_of_cell? W _ hcell)
 have hne2 : B2 ≠ W.heap.size := Nat.ne_of_lt (World.block_lt_of_cell? W _ hcell2)
 replace hcell := cell_old W (.cells #[.int .i64 x.f0, .bool x.f1, .int .i64 x.f2, .int .i64 x.f3] 41) hcell
 replace hcell2 := cell_old W (.cells #[.int .i64 x.f0, .bool x.f1, .int .i64 x.f2, .int .i64 x.f3] 41) hcell2
 have HR := Aside0.mk (Kd.C_below hr HB.out)
 have HC := Aside0.mk hc
 have H := Aside0.mk h
 clear hr hc h
 show Calls Try.prog 23 #[.agg #[.int .i64 x.f0, .bool x.f1, .int .i64 x.f2, .int .i64 x.f3], .pointer (some ⟨B, 0, none⟩), .pointer (some ⟨B2, 0, none⟩)] W _
 go_enter Try.func23, Try.ntmps23
 go_wp2_with (go_at_call 20; refine (impl_Tree_is.calls k A0 c0 l0 x.f2 a b _ HR.out HC.out H.out).mono ?_; rintro e w' ⟨rfl, hb⟩)
 go_ret
 exact ⟨rfl, below_step HB.out hb⟩
set_option maxHeartbeats 1600000 in
set_option maxRecDepth 100000 in
theorem impl_Tree_split.clo2 (k : Nat) (A0 : Option Addr) (c0 : Nat) (l0 : List (S51)) (a : Int) (x : S41) (b : Bool) (B B2 : Nat) (W : World) (hr : Kd.C k51 W A0 l0.length l0) (hc : l0.length ≤ c0) (hcell : W.cell? ⟨B, 0, none⟩ = some (.slice A0 l0.length c0)) (hcell2 : W.cell? ⟨B2, 0, none⟩ = some (.int .i64 a)) (h : impl_Tree_split.p2 k l0 a x = some b) :
  Calls Try.prog 24 (#[.agg #[.int .i64 x.f0, .bool x.f1, .int .i64 x.f2, .int .i64 x.f3]] ++ #[.pointer (some ⟨B, 0, none⟩), .pointer (some ⟨B2, 0, none⟩)]) W fun e W' => e = .returned (.bool b) ∧ Below W.heap.size W W' := by
 have hu24 := Try.underlying24
 have hu41 := Try.underlying41
 unfold impl_Tree_split.p2 at h
 obtain ⟨q, h1, h2⟩ := Option.bind_eq_some_iff.mp h
 obtain rfl := Option.some.inj h2
 have HB := Aside0.mk (below_alloc (Below.refl W.heap.size W) (.cells #[.int .i64 x.f0, .bool x.f1, .int .i64 x.f2, .int .i64 x.f3] 41))
 have hne : B ≠ W.heap.size := Nat.ne_of_lt (World.block_lt_of_cell? W _ hcell)
 have hne2 : B2 ≠ W.heap.size := Nat.ne_of_lt (World.block_lt_of_cell? W _ hcell2)
 replace hcell := cell_old W (.cells #[.int .i64 x.f0, .bool x.f1, .int .i64 x.f2, .int .i64 x.f3] 41) hcell
 replace hcell2 := cell_old W (.cells #[.int .i64 x.f0, .bool x.f1, .int .i64 x.f2, .int .i64 x.f3] 41) hcell2
 have HR := Aside0.mk (Kd.C_below hr HB.out)
 have HC := Aside0.mk hc
 have H := Aside0.mk h1
 clear hr hc h h1 h2
 show Calls Try.prog 24 #[.agg #[.int .i64 x.f0, .bool x.f1, .int .i64 x.f2, .int .i64 x.f3], .pointer (some ⟨B, 0, none⟩), .pointer (some ⟨B2, 0, none⟩)] W _
 go_enter Try.func24, Try.ntmps24
 go_wp2_with (go_at_call 20; refine (impl_Tree_is.calls k A0 c0 l0 x.f2 a q _ HR.out HC.out H.out).mono ?_; rintro e w' ⟨rfl, hb⟩)
 go_ret
 exact ⟨rfl, below_step HB.out hb⟩
set_option maxHeartbeats 1600000 in
set_option maxRecDepth 100000 in
theorem impl_Tree_split.calls (k : Nat) (A0_0 : Option Addr) (c0_0 : Nat) (l0_0 : List (S51)) (A1 : Option Addr) (c1 : Nat) (l1 : List (S41)) (a2 : Int) (r1 : List (S41)) (r2 : List (S41)) (w : World) (hr0_0 : Kd.C k51 w A0_0 l0_0.length l0_0) (hc0_0 : l0_0.length ≤ c0_0) (hr1 : Kd.C k41 w A1 l1.length l1) (hc1 : l1.length ≤ c1) (h : impl_Tree_split.f k l0_0 l1 a2 = some (r1, r2)) :
  Calls Try.prog 13 #[.agg #[.slice A0_0 l0_0.length c0_0], .slice A1 l1.length c1, .int .i64 a2] w fun e w' => ∃ v0_ v1_ : Value, e = .returned (.tuple #[v0_, v1_]) ∧ Kd.R k41 41 w' w.heap.size (fun k_ => some k_ ≠ (v1_ : Value).ownBlock) v0_ r1 ∧ Kd.R k41 41 w' w.heap.size (fun k_ => some k_ ≠ (v0_ : Value).ownBlock) v1_ r2 ∧ Below w.heap.size w w' := by
 have hu24 := Try.underlying24
 have hu41 := Try.underlying41
 unfold impl_Tree_split.f at h
 obtain ⟨s1, h1, h⟩ := Option.bind_eq_some_iff.mp h
 obtain ⟨s2, h2, h⟩ := Option.bind_eq_some_iff.mp h
 have h := Prod.mk.inj (Option.some.inj h)
 obtain ⟨rfl, rfl⟩ := h
 have HR0 := Aside0.mk hr0_0
 have HC0 := Aside0.mk hc0_0
 have HR1 := Aside0.mk hr1
 have HC1 := Aside0.mk hc1
 have H1 := Aside0.mk h1
 have H2 := Aside0.mk h2
 clear hr0_0 hc0_0 hr1 hc1 h1 h2
 have HB := Aside0.mk (below_alloc (below_alloc (Below.refl w.heap.size w) (.cells #[.slice A0_0 l0_0.length c0_0] 24)) (.cells #[.int .i64 a2] 3))
 have HK := Aside0.mk (show ((w.alloc (.cells #[.slice A0_0 l0_0.length c0_0] 24)).alloc (.cells #[.int .i64 a2] 3)).cell? ⟨w.heap.size, 0, none⟩ = some (.slice A0_0 l0_0.length c0_0) from cell_old _ _ (cell_new w _ _))
 have HK2 := Aside0.mk (show ((w.alloc (.cells #[.slice A0_0 l0_0.length c0_0] 24)).alloc (.cells #[.int .i64 a2] 3)).cell? ⟨w.heap.size + 1, 0, none⟩ = some (.int .i64 a2) from cell_new1 w _ _ _)
 have eg1 : ∀ args w, (callFunc 23 args).run Try.prog w = .ok (.enter 23 args) w := enters_of Try.func23 (by kernel_rfl) rfl
 have eg2 : ∀ args w, (callFunc 24 args).run Try.prog w = .ok (.enter 24 args) w := enters_of Try.func24 (by kernel_rfl) rfl
 go_enter Try.func13, Try.ntmps13
 go_wp2_with (first | (have hz_ := HK3.out; clear hz_; go_at_call 22; refine (impl_with.calls k 24 #[.pointer (some ⟨w.heap.size, 0, none⟩), .pointer (some ⟨w.heap.size + 1, 0, none⟩)] eg2 (impl_Tree_split.p2 k l0_0 a2) A1 c1 l1 s2 _ (Kd.C_below HR1.out HB1.out) HC1.out (fun W x b hbW hx => impl_Tree_split.clo2 k A0_0 c0_0 l0_0 a2 x b w.heap.size (w.heap.size + 1) W (Kd.C_below HR0.out (below_step HB1.out hbW)) HC0.out ((hbW.cell (p := ⟨w.heap.size, 0, none⟩) (Nat.lt_trans (Nat.lt_succ_self _) HS.out)).trans HK3.out) ((hbW.cell (p := ⟨w.heap.size + 1, 0, none⟩) HS.out).trans HK4.out) hx) H2.out).mono ?_; rintro e w2 ⟨v1, rfl, ho, hb⟩; have HO2 := Aside0.mk ho; have HB2 := Aside0.mk hb; clear ho hb) | (go_at_call 22; refine (impl_with.calls k 23 #[.pointer (some ⟨w.heap.size, 0, none⟩), .pointer (some ⟨w.heap.size + 1, 0, none⟩)] eg1 (impl_Tree_split.p1 k l0_0 a2) A1 c1 l1 s1 _ (Kd.C_below HR1.out HB.out) HC1.out (fun W x b hbW hx => impl_Tree_split.clo1 k A0_0 c0_0 l0_0 a2 x b w.heap.size (w.heap.size + 1) W (Kd.C_below HR0.out (below_step HB.out hbW)) HC0.out ((hbW.cell (p := ⟨w.heap.size, 0, none⟩) (by simp <;> omega)).trans HK.out) ((hbW.cell (p := ⟨w.heap.size + 1, 0, none⟩) (by simp <;> omega)).trans HK2.out) hx) H1.out).mono ?_; rintro e w1 ⟨v0, rfl, ho, hb⟩; have HO1 := Aside0.mk ho; have HB1 := Aside0.mk (below_step HB.out hb); have HK3 := Aside0.mk ((hb.cell (p := ⟨w.heap.size, 0, none⟩) (by simp <;> omega)).trans HK.out); have HK4 := Aside0.mk ((hb.cell (p := ⟨w.heap.size + 1, 0, none⟩) (by simp <;> omega)).trans HK2.out); have HS := Aside0.mk (show w.heap.size + 1 < w1.heap.size by have := hb.size; simp at this; omega); clear ho hb))
 go_ret2
 have b1 := Kd.R_bound HO1.out
 have b2 := Kd.R_bound HO2.out
 refine ⟨_, _, rfl, ?_, ?_, below_step HB1.out HB2.out⟩
 ·refine Kd.R_lower (Kd.R_mono (Kd.R_below (Kd.R_mono b1 (ok' := fun k_ => k_ < w1.heap.size) (fun k_ hk => hk.2.2.1)) HB2.out) (fun k_ hk q => ?_)) (below_size HB.out)
  have := (b2.1 k_ q.symm).2.1
  omega
 ·refine Kd.R_lower (Kd.R_mono b2 (fun k_ hk q => ?_)) (below_size HB1.out)
  have h1 := (b1.1 k_ q.symm).2.2.1
  have h2 := hk.2.1
  omega
end Go.Proofs.Ytnacfppmlldbcaa.PT
