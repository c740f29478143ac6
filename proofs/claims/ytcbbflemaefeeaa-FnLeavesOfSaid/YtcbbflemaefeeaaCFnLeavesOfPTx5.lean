/- Words and walks that the law's proof uses: each printed function's contract. Conditions: none beyond the statement's own. -/
import Derived.Test.YtcbbflemaefeeaaCFnLeavesOfPTx0
import Derived.Test.YtcbbflemaefeeaaCFnLeavesOfPTx4
namespace Go.Proofs.Ytcbbflemaefeeaa.PT
open Go.RowKit Go.Proofs.YtcbbflemaefeeaaW.PrintWords Go.Proofs.YtcbbflemaefeeaaW.PrintLast Go.Proofs.YtcbbflemaefeeaaW.PrintMore
attribute [local go_sem] max2_int min2_int max_two min_two max_three min_three max_four min_four   -- for this text's walks alone
set_option linter.unusedVariables false
set_option linter.unusedSimpArgs false
def impl_within.f (a0 : Int) (a1 : Int) (a2 : Int) : Option (Bool) := if a0 ≥ a1 then (some (decide (a0 ≤ a2))) else (some false)
set_option maxHeartbeats 8000000 in
set_option maxRecDepth 100000 in
theorem impl_within.calls (a0 : Int) (a1 : Int) (a2 : Int) (r : Bool) (w : World) (h : impl_within.f a0 a1 a2 = some r) :
  Calls Try.prog 45 #[.int .i64 a0,.int .i64 a1,.int .i64 a2] w fun e w' => e = .returned (.bool r) ∧ Drawn0 w w' := by
 have H : (if a0 ≥ a1 then (some (decide (a0 ≤ a2))) else (some false)) = some r := h
 clear h
 by_cases c4 : a0 ≥ a1
 ·rw [if_pos c4] at H
  have c4b0 : decide (a1 ≤ a0) = true := decide_eq_true c4
  clear c4
  obtain rfl := Option.some.inj H
  go_enter Try.func45,Try.ntmps45
  go_wp2
  go_ret
  exact ⟨by first|rfl|(simp;done)|(simp [*];done),by repeat (first|exact Drawn0.refl _|apply Drawn0.step)⟩
 ·rw [if_neg c4] at H
  have c4b0 : decide (a1 ≤ a0) = false := decide_eq_false c4
  clear c4
  obtain rfl := Option.some.inj H
  go_enter Try.func45,Try.ntmps45
  go_wp2
  go_ret
  exact ⟨by first|rfl|(simp;done)|(simp [*];done),by repeat (first|exact Drawn0.refl _|apply Drawn0.step)⟩
def impl_nameOk.l0 : Nat → ByteArray → Int → Int → Option (Bool)
 | 0, _, _, _ => none
 | k + 1, x0, x5, x6 => if x6 < x5 then (if 0 ≤ x6 then (if x6 < (x0.size : Int) then (if (bt x0 x6) < 97 then (some false) else (if (bt x0 x6) > 122 then (some false) else (impl_nameOk.l0 k x0 x5 (wrap64 (x6 + 1))))) else (none)) else (none)) else ((impl_within.f (x0.size : Int) 1 6).bind fun t168 => (some t168))
def impl_nameOk.f (k : Nat) (a0 : ByteArray) : Option (Bool) := impl_nameOk.l0 k a0 (a0.size : Int) 0
set_option maxHeartbeats 8000000 in
set_option maxRecDepth 100000 in
theorem impl_nameOk.calls (k : Nat) (a0 : ByteArray) (r : Bool) (w : World) (h : impl_nameOk.f k a0 = some r) :
  Calls Try.prog 43 #[.string a0] w fun e w' => e = .returned (.bool r) ∧ Drawn0 w w' := by
 have H : (impl_nameOk.l0 k a0 (a0.size : Int) 0) = some r := h
 clear h
 have H' := Aside0.mk H
 clear H
 go_enter Try.func43,Try.ntmps43
 go_wp2
 go_loopg [6] k (fun kq v6 w' => ∃ (x6_1 : Int),v6 = .int .i64 x6_1 ∧ Aside0 (impl_nameOk.l0 kq a0 (a0.size : Int) x6_1 = some r) ∧ Aside0 (kq ≤ k) ∧ Drawn0 w w')
 case atStart => exact ⟨(0),(by first|rfl|(simp;done)|(simp [*];done)),H',⟨Nat.le_refl _⟩,by repeat (first|exact Drawn0.refl _|apply Drawn0.step)⟩
 case round =>
  clear H'
  obtain ⟨x6_1,rfl,HA,HK1,⟨m1,rfl⟩⟩ := hrel
  cases gk with
  | zero => exact absurd HA.out (by simp [impl_nameOk.l0])
  | succ k1 =>
   have H := HA.out
   clear HA
   simp only [impl_nameOk.l0] at H
   by_cases c2 : x6_1 < (a0.size : Int)
   ·rw [if_pos c2] at H
    have c2b0 : decide (x6_1 < (a0.size : Int)) = true := decide_eq_true c2
    clear c2
    by_cases c3 : 0 ≤ x6_1
    ·rw [if_pos c3] at H
     have c3b0 : decide (0 ≤ x6_1) = true := decide_eq_true c3
     clear c3
     by_cases c4 : x6_1 < (a0.size : Int)
     ·rw [if_pos c4] at H
      have c4b0 : decide (x6_1 < (a0.size : Int)) = true := decide_eq_true c4
      clear c4
      by_cases c6 : (bt a0 x6_1) < 97
      ·rw [if_pos c6] at H
       have c6b0 : decide ((bt a0 x6_1) < 97) = true := decide_eq_true c6
       clear c6
       obtain rfl := Option.some.inj H
       have p5 : 0 ≤ (x6_1 : Int) := of_decide_eq_true (by first|(with_reducible assumption)|assumption)
       have q5 : x6_1 < (a0.size : Int) := of_decide_eq_true (by first|(with_reducible assumption)|assumption)
       have hx5 := bt_at a0 x6_1
       replace p5 := eq_true p5
       replace q5 := eq_true q5
       go_wp2
       go_ret
       exact ⟨by first|rfl|(simp;done)|(simp [*];done),by repeat (first|exact Drawn0.refl _|apply Drawn0.step)⟩
      ·rw [if_neg c6] at H
       have c6b0 : decide ((bt a0 x6_1) < 97) = false := decide_eq_false c6
       clear c6
       by_cases c8 : (bt a0 x6_1) > 122
       ·rw [if_pos c8] at H
        have c8b0 : decide (122 < (bt a0 x6_1)) = true := decide_eq_true c8
        clear c8
        obtain rfl := Option.some.inj H
        have p5 : 0 ≤ (x6_1 : Int) := of_decide_eq_true (by first|(with_reducible assumption)|assumption)
        have q5 : x6_1 < (a0.size : Int) := of_decide_eq_true (by first|(with_reducible assumption)|assumption)
        have hx5 := bt_at a0 x6_1
        replace p5 := eq_true p5
        replace q5 := eq_true q5
        have p7 : 0 ≤ (x6_1 : Int) := of_decide_eq_true (by first|(with_reducible assumption)|assumption)
        have q7 : x6_1 < (a0.size : Int) := of_decide_eq_true (by first|(with_reducible assumption)|assumption)
        have hx7 := bt_at a0 x6_1
        replace p7 := eq_true p7
        replace q7 := eq_true q7
        go_wp2
        go_ret
        exact ⟨by first|rfl|(simp;done)|(simp [*];done),by repeat (first|exact Drawn0.refl _|apply Drawn0.step)⟩
       ·rw [if_neg c8] at H
        have c8b0 : decide (122 < (bt a0 x6_1)) = false := decide_eq_false c8
        clear c8
        have H' := Aside0.mk H
        clear H
        have p5 : 0 ≤ (x6_1 : Int) := of_decide_eq_true (by first|(with_reducible assumption)|assumption)
        have q5 : x6_1 < (a0.size : Int) := of_decide_eq_true (by first|(with_reducible assumption)|assumption)
        have hx5 := bt_at a0 x6_1
        replace p5 := eq_true p5
        replace q5 := eq_true q5
        have p7 : 0 ≤ (x6_1 : Int) := of_decide_eq_true (by first|(with_reducible assumption)|assumption)
        have q7 : x6_1 < (a0.size : Int) := of_decide_eq_true (by first|(with_reducible assumption)|assumption)
        have hx7 := bt_at a0 x6_1
        replace p7 := eq_true p7
        replace q7 := eq_true q7
        go_wp2
        go_roundg k1
        case measure => have := HK1.out;omega
        case rel => exact ⟨(wrap64 (x6_1 + 1)),(by first|rfl|(simp;done)|(simp [*];done)),H',⟨by have := HK1.out;omega⟩,by repeat (first|exact Drawn0.refl _|apply Drawn0.step)⟩
     ·rw [if_neg c4] at H
      exact absurd H (by simp)
    ·rw [if_neg c3] at H
     exact absurd H (by simp)
   ·rw [if_neg c2] at H
    have c2b0 : decide (x6_1 < (a0.size : Int)) = false := decide_eq_false c2
    clear c2
    replace H := Option.bind_eq_some_iff.mp H
    obtain ⟨t168,A90,H⟩ := H
    replace H : (some t168) = some r := H
    have A9 := Aside0.mk A90
    clear A90
    obtain rfl := Option.some.inj H
    go_wp2_with (first|((with_reducible refine gate_callee (f := 45) rfl ?_);refine goesL_ (some 22) rfl rfl Try.func45 (by kernel_rfl) rfl #[.int .i64 (a0.size : Int),.int .i64 1,.int .i64 6] rfl (by (try simp only [List.map_toArray,List.map_cons,List.map_nil]);first|done|rfl|(simp only [List.length_drop,List.length_take];rfl)) ?_;(with_reducible refine (impl_within.calls (a0.size : Int) 1 6 t168 _ A9.out).mono ?_);rintro e w' ⟨rfl,⟨nd,rfl⟩⟩;refine ⟨_,rfl,?_⟩))
    go_ret
    exact ⟨by first|rfl|(simp;done)|(simp [*];done),by repeat (first|exact Drawn0.refl _|apply Drawn0.step)⟩
def idxO {α : Type} (p : α → Option Bool) : List α → Int → Option Int
 | [], _ => some (-1)
 | x :: xs, i => (p x).bind fun b => if b = true then some i else idxO p xs (i + 1)
theorem idxO_at {α : Type} (p : α → Option Bool) (l : List α) (i : Nat) (z : α) (j : Int) (h : i < l.length) : idxO p (l.drop i) j = (p (l.getD i z)).bind fun b => if b = true then some j else idxO p (l.drop (i + 1)) (j + 1) := by
 rw [List.drop_eq_getElem_cons h]
 simp only [idxO]
 rw [List.getD_eq_getElem?_getD,List.getElem?_eq_getElem h]
 rfl
set_option maxHeartbeats 8000000 in
set_option maxRecDepth 100000 in
theorem impl_Class.calls (g : Nat) (lb : Array Value) (eg : ∀ args w,(callFunc g args).run Try.prog w = .ok (.enter g args) w) (p : (S70) → Option Bool) (A0 : Option Addr) (c0 : Nat) (l0 : List (S70)) (r : Int) (w : World) (hr0 : Kd.C k70 w A0 l0.length l0) (hc0 : l0.length ≤ c0)
  (hp : ∀ (W : World) (x : (S70)) (b : Bool),Below w.heap.size w W → p x = some b → Calls Try.prog g (#[.agg #[.string x.f0,.int .i64 x.f1]] ++ lb) W fun e W' => e = .returned (.bool b) ∧ Below W.heap.size W W')
  (h : idxO p l0 0 = some r) :
  Calls Try.prog 59 #[.slice A0 l0.length c0,.func (.func g) #[] lb] w fun e w' => e = .returned (.int .i64 r) ∧ Below w.heap.size w w' := by
 have hu70 := Try.underlying70
 have HR0 := Aside0.mk hr0
 have HC0 := Aside0.mk hc0
 have hmx := hr0.2.1
 clear hr0 hc0
 have HB := Aside0.mk (Below.refl w.heap.size w)
 have HP := Aside0.mk hp
 clear hp
 have H' := Aside0.mk h
 clear h
 go_enter Try.func59,Try.ntmps59
 go_wp2
 go_loopg [5,8] l0.length (fun gg _ v8 w' => ∃ (kk : Nat),v8 = .int .i64 kk ∧ Aside0 (kk ≤ l0.length) ∧ Aside0 (l0.length - kk ≤ gg) ∧ Aside0 (idxO p (l0.drop kk) kk = some r) ∧ Aside0 (Below w.heap.size w w'))
 case atStart => exact ⟨0,rfl,⟨Nat.zero_le _⟩,⟨by omega⟩,H',HB⟩
 case round =>
  clear H' HB
  obtain ⟨kk,rfl,HK1,HM,H,HB⟩ := hrel
  by_cases hlt : kk < l0.length
  ·have c2b0 : decide ((kk : Int) < (l0.length : Int)) = true := decide_eq_true (by omega)
   have c2b1 : decide (kk < l0.length) = true := decide_eq_true hlt
   have c3b0 : decide ((0 : Int) ≤ (kk : Int)) = true := decide_eq_true (by omega)
   have H1 := H.out
   rw [idxO_at p l0 kk z70 kk hlt] at H1
   obtain ⟨b,hb1,hb2⟩ := Option.bind_eq_some_iff.mp H1
   clear H1 H
   obtain ⟨ad123,e123,hx0,hx1⟩ := at_T70 HR0.out (kk : Int) (by omega) (by omega)
   have hgd : rd_T70 l0 (kk : Int) = l0.getD kk z70 := rfl
   rw [hgd] at hx0 hx1
   clear hgd
   generalize l0.getD kk z70 = x at hx0 hx1 hb1
   have HX := Aside0.mk hb1
   clear hb1
   cases e123
   simp only [Int.toNat_natCast] at hx0 hx1
   replace hx0 := (HB.out.cell (World.block_lt_of_cell? w _ hx0)).trans hx0
   replace hx1 := (HB.out.cell (World.block_lt_of_cell? w _ hx1)).trans hx1
   have HL := Aside0.mk hlt
   have q123 : (kk : Int) < (l0.length : Int) := by omega
   clear hlt
   cases b with
   | true =>
    rw [if_pos rfl] at hb2
    have HE := Aside0.mk (Option.some.inj hb2)
    clear hb2
    go_wp2_with (go_at_fn g;refine (HP.out _ x true HB.out HX.out).mono ?_;rintro e w' ⟨rfl,hb'⟩)
    go_ret
    exact ⟨by obtain rfl := HE.out;rfl,below_step HB.out hb'⟩
   | false =>
    rw [if_neg (by decide)] at hb2
    have HE := Aside0.mk hb2
    clear hb2
    go_wp2_with (go_at_fn g;refine (HP.out _ x false HB.out HX.out).mono ?_;rintro e w' ⟨rfl,hb'⟩)
    go_roundg (l0.length - (kk + 1))
    case measure => have := HL.out;have := HM.out;omega
    case rel => exact ⟨kk + 1,by go_num,⟨by have := HL.out;omega⟩,⟨by omega⟩,⟨by rw [← HE.out];rfl⟩,⟨below_step HB.out hb'⟩⟩
  ·have c2b0 : decide ((kk : Int) < (l0.length : Int)) = false := decide_eq_false (by omega)
   have c2b1 : decide (kk < l0.length) = false := decide_eq_false hlt
   have H1 := H.out
   rw [List.drop_of_length_le (by omega)] at H1
   have HE := Aside0.mk (Option.some.inj H1)
   clear H1 H
   go_wp2
   go_ret
   exact ⟨by obtain rfl := HE.out;rfl,HB.out⟩
def impl_Tree_named.f (l0_0 : List (S70)) (a1 : ByteArray) : Option Int := idxO (fun c => some (c.f0.toList == a1.toList)) l0_0 0
set_option maxHeartbeats 8000000 in
set_option maxRecDepth 100000 in
theorem impl_Tree_named.clo (name : ByteArray) (B : Nat) (W : World) (x : (S70)) (hB : B < W.heap.size) (hcell : W.cell? ⟨B,0,none⟩ = some (.string name)) :
  Calls Try.prog 60 (#[.agg #[.string x.f0,.int .i64 x.f1]] ++ #[.pointer (some ⟨B,0,none⟩)]) W fun e W' => e = .returned (.bool (x.f0.toList == name.toList)) ∧ Below W.heap.size W W' := by
 have hu70 := Try.underlying70
 show Calls Try.prog 60 #[.agg #[.string x.f0,.int .i64 x.f1],.pointer (some ⟨B,0,none⟩)] W _
 have hne : B ≠ W.heap.size := by omega
 go_enter Try.func60,Try.ntmps60
 go_wp2
 go_ret
 exact ⟨rfl,below_alloc (Below.refl _ _) _⟩
set_option maxHeartbeats 8000000 in
set_option maxRecDepth 100000 in
theorem impl_Tree_named.calls (A0_0 : Option Addr) (c0_0 : Nat) (l0_0 : List (S70)) (a1 : ByteArray) (r : Int) (w : World) (hr0_0 : Kd.C k70 w A0_0 l0_0.length l0_0) (hc0_0 : l0_0.length ≤ c0_0) (h : impl_Tree_named.f l0_0 a1 = some r) :
  Calls Try.prog 44 #[.agg #[.slice A0_0 l0_0.length c0_0],.string a1] w fun e w' => e = .returned (.int .i64 r) ∧ Below w.heap.size w w' := by
 have hu31 := Try.underlying31
 have HR0 := Aside0.mk hr0_0
 have HC0 := Aside0.mk hc0_0
 have H := Aside0.mk h
 clear hr0_0 hc0_0 h
 have HB := Aside0.mk (below_alloc (below_alloc (Below.refl w.heap.size w) (.cells #[.slice A0_0 l0_0.length c0_0] 31)) (.cells #[.string a1] 9))
 have eg : ∀ args w,(callFunc 60 args).run Try.prog w = .ok (.enter 60 args) w := enters_of Try.func60 (by kernel_rfl) rfl
 go_enter Try.func44,Try.ntmps44
 go_wp2_with (go_at_call 59;refine (impl_Class.calls 60 #[.pointer (some ⟨w.heap.size + 1,0,none⟩)] eg _ A0_0 c0_0 l0_0 r _ (Kd.C_alloc (Kd.C_alloc HR0.out _) _) HC0.out ?hp H.out).mono ?_;(case hp => (intro W x b hb hx;obtain rfl := Option.some.inj hx;exact impl_Tree_named.clo a1 (w.heap.size + 1) W x (by have := hb.size;simp at this;omega) ((hb.cell (p := ⟨w.heap.size + 1,0,none⟩) (by simp <;> omega)).trans (by simp))));rintro e w' ⟨rfl,hb⟩)
 go_ret
 exact ⟨rfl,below_step HB.out hb⟩
end Go.Proofs.Ytcbbflemaefeeaa.PT
