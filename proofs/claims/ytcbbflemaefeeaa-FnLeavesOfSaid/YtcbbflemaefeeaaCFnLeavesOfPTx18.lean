/- Words and walks that the law's proof uses: each printed function's contract. Conditions: none beyond the statement's own. -/
import Derived.Test.YtcbbflemaefeeaaCFnLeavesOfPTx0
import Derived.Test.YtcbbflemaefeeaaCFnLeavesOfPTx4
import Derived.Test.YtcbbflemaefeeaaCFnLeavesOfPTx14
import Derived.Test.YtcbbflemaefeeaaCFnLeavesOfPTx17
namespace Go.Proofs.Ytcbbflemaefeeaa.PT
open Go.RowKit Go.Proofs.YtcbbflemaefeeaaW.PrintWords Go.Proofs.YtcbbflemaefeeaaW.PrintLast Go.Proofs.YtcbbflemaefeeaaW.PrintMore
attribute [local go_sem] max2_int min2_int max_two min_two max_three min_three max_four min_four   -- for this text's walks alone
set_option linter.unusedVariables false
set_option linter.unusedSimpArgs false
def spec_leaves.l0 : Nat → List (S46) → List (S62) → Int → Option ((List (S62)))
 | 0, _, _, _ => none
 | k + 1, x0, x3, x4 => if x4 < (x0.length : Int) then (if 0 ≤ x4 then (if (rd_T46 x0 x4).f1 = true then (spec_leaves.l0 k x0 x3 (wrap64 (x4 + 1))) else ((spec_leaf.f ((rd_T46 x0 x4).f0) ((rd_T46 x0 x4).f1) ((rd_T46 x0 x4).f2) ((rd_T46 x0 x4).f3)).bind fun bt525 => (if x3.length < 8796093022208 then (spec_leaves.l0 k x0 (x3 ++ [(⟨bt525.1, bt525.2⟩ : S62)]) (wrap64 (x4 + 1))) else (none)))) else (none)) else (some x3)
def spec_leaves.f (k : Nat) (l0 : List (S46)) : Option ((List (S62))) := spec_leaves.l0 k l0 (([] : List (S62))) 0
set_option maxHeartbeats 8000000 in
set_option maxRecDepth 100000 in
theorem spec_leaves.calls (k : Nat) (A0 : Option Addr) (c0 : Nat) (l0 : List (S46)) (r : List (S62)) (w : World) (hr0 : Kd.C k46 w A0 l0.length l0) (hc0 : l0.length ≤ c0) (h : spec_leaves.f k l0 = some r) :
  Calls Try.prog 36 #[.slice A0 l0.length c0] w fun e w' => ∃ v0_ : Value,e = .returned (v0_) ∧ Kd.R k62 62 w' w.heap.size (fun _ => True) v0_ r ∧ Below w.heap.size w w' := by
 have hu46 := Try.underlying46
 have HR0 := Aside0.mk hr0
 have HC0 := Aside0.mk hc0
 clear hr0 hc0
 have HB := Aside0.mk (Below.refl w.heap.size w)
 have H : (spec_leaves.l0 k l0 (([] : List (S62))) 0) = some r := h
 clear h
 obtain ⟨y520,hy520⟩ : ∃ y_ : List (S62),y_ = (([] : List (S62))) := ⟨_,rfl⟩
 replace H : (spec_leaves.l0 k l0 y520 0) = some r := by first|(rw [hy520];with_reducible exact H)|(have H2_ := (Option.bind_some _ _).symm.trans H;rw [hy520];with_reducible exact H2_)|(have H2_ := (Option.bind_some _ _).symm.trans H;with_reducible exact H2_)|with_reducible exact H|(rw [hy520];exact H)|exact H
 have Ny520 := Aside0.mk hy520
 clear hy520
 have H' := Aside0.mk H
 clear H
 go_enter Try.func36,Try.ntmps36
 go_wp2_with (first|((with_reducible refine gate_dst (N := 5) rfl ?_);refine Kd.R_lit k62 _ 62 ?hg (N := 5) ?hd (xs := ([] : List (S62))) (inner := []) (ok := fun _ => True) (okp := fun _ => True) ?hr ?hp (fun _ hk => hk) trivial (Below.refl _ _) (Nat.le_refl _) (by simp) ?_;(case hd => rfl);(case hg => rfl);(case hr => first|(go_simp;done)|(go_simp;rfl));(case hp => exact (Reps.none _ _));intro v521 w2 ho3 hb hg_ hnew_;clear hg_ hnew_;(first|rw [← Ny520.out] at ho3|(simp only [Int.reduceToNat] at ho3;rw [← Ny520.out] at ho3));have n0_ := Aside0.mk (Kd.R_lower ho3 (below_size (by repeat (first|(with_reducible first|exact HB.out|apply below_alloc|apply pw_below_drewN|apply below_drew1)|exact HB.out))));have n1_ := Aside0.mk (below_step (by repeat (first|(with_reducible first|exact HB.out|apply below_alloc|apply pw_below_drewN|apply below_drew1)|exact HB.out)) hb);clear HB;have HO522 := n0_;have HB := n1_;clear n0_ n1_;clear hb ho3))
 go_loopg [3,4] k (fun kq v3 v4 w' => ∃ (x3_1 : List (S62)) (x4_1 : Int),v4 = .int .i64 x4_1 ∧ Aside0 (spec_leaves.l0 kq l0 x3_1 x4_1 = some r) ∧ Aside0 (kq ≤ k) ∧ Aside0 (Kd.R k62 62 w' w.heap.size (fun _ => True) v3 x3_1) ∧ Aside0 (Below w.heap.size w w'))
 case atStart => exact ⟨(y520),(0),(by first|rfl|(simp;done)|(simp [*];done)),H',⟨Nat.le_refl _⟩,⟨by (with_reducible repeat (first|apply Kd.R_alloc|apply Kd.R_drewN|apply Kd.R_drew));exact HO522.out⟩,⟨by repeat (first|(with_reducible first|exact HB.out|apply below_alloc|apply pw_below_drewN|apply below_drew1)|exact HB.out)⟩⟩
 case round =>
  clear H'
  try clear p2
  try clear c3
  obtain ⟨x3_1,x4_1,rfl,HA,HK1,HO_3,HB⟩ := hrel
  cases gk with
  | zero => exact absurd HA.out (by simp [spec_leaves.l0])
  | succ k1 =>
   have H := HA.out
   clear HA
   simp only [spec_leaves.l0] at H
   by_cases c4 : x4_1 < (l0.length : Int)
   ·rw [if_pos c4] at H
    have c4b0 : decide (x4_1 < (l0.length : Int)) = true := decide_eq_true c4
    clear c4
    by_cases c5 : 0 ≤ x4_1
    ·rw [if_pos c5] at H
     have c5b0 : decide (0 ≤ x4_1) = true := decide_eq_true c5
     clear c5
     obtain ⟨bq6,hbq6⟩ : ∃ b_ : Bool,b_ = ((rd_T46 l0 x4_1).f1) := ⟨_,rfl⟩
     replace H : (if bq6 = true then (spec_leaves.l0 k1 l0 x3_1 (wrap64 (x4_1 + 1))) else ((spec_leaf.f ((rd_T46 l0 x4_1).f0) (bq6) ((rd_T46 l0 x4_1).f2) ((rd_T46 l0 x4_1).f3)).bind fun bt525 => (if x3_1.length < 8796093022208 then (spec_leaves.l0 k1 l0 (x3_1 ++ [(⟨bt525.1,bt525.2⟩ : S62)]) (wrap64 (x4_1 + 1))) else (none)))) = some r := by rw [← hbq6] at H;exact H
     have Nbq6 := Aside0.mk hbq6
     clear hbq6
     by_cases c7 : bq6 = true
     ·subst c7
      have H1 : (spec_leaves.l0 k1 l0 x3_1 (wrap64 (x4_1 + 1))) = some r := by rw [if_pos rfl] at H;exact H
      clear H
      have H := H1
      clear H1
      have H' := Aside0.mk H
      clear H
      have p523 : 0 ≤ (x4_1 : Int) := of_decide_eq_true (by first|(with_reducible assumption)|assumption)
      have q523 : x4_1 < (l0.length : Int) := of_decide_eq_true (by first|(with_reducible assumption)|assumption)
      obtain ⟨ad523,e523,hx523_0,hx523_1,hx523_2,hx523_3⟩ := at_T46 HR0.out x4_1 p523 q523
      (try rw [← Nbq6.out] at hx523_1)
      cases e523
      replace hx523_0 := (HB.out.cell (World.block_lt_of_cell? w _ hx523_0)).trans hx523_0
      replace hx523_1 := (HB.out.cell (World.block_lt_of_cell? w _ hx523_1)).trans hx523_1
      replace hx523_2 := (HB.out.cell (World.block_lt_of_cell? w _ hx523_2)).trans hx523_2
      replace hx523_3 := (HB.out.cell (World.block_lt_of_cell? w _ hx523_3)).trans hx523_3
      replace p523 := eq_true p523
      replace q523 := eq_true q523
      go_wp2
      go_roundg k1
      case measure => have := HK1.out;omega
      case rel => exact ⟨(x3_1),(wrap64 (x4_1 + 1)),(by first|rfl|(simp;done)|(simp [*];done)),H',⟨by have := HK1.out;omega⟩,⟨by (with_reducible repeat (first|apply Kd.R_alloc|apply Kd.R_drewN|apply Kd.R_drew));exact HO_3.out⟩,⟨by repeat (first|(with_reducible first|exact HB.out|apply below_alloc|apply pw_below_drewN|apply below_drew1)|exact HB.out)⟩⟩
     ·replace c7 := Bool.eq_false_iff.mpr c7
      subst c7
      have H1 : ((spec_leaf.f ((rd_T46 l0 x4_1).f0) (false) ((rd_T46 l0 x4_1).f2) ((rd_T46 l0 x4_1).f3)).bind fun bt525 => (if x3_1.length < 8796093022208 then (spec_leaves.l0 k1 l0 (x3_1 ++ [(⟨bt525.1,bt525.2⟩ : S62)]) (wrap64 (x4_1 + 1))) else (none))) = some r := by rw [if_neg (show ¬ (false = true) by decide)] at H;exact H
      clear H
      have H := H1
      clear H1
      replace H := Option.bind_eq_some_iff.mp H
      obtain ⟨⟨t525,t526⟩,A80,H⟩ := H
      replace H : (if x3_1.length < 8796093022208 then (spec_leaves.l0 k1 l0 (x3_1 ++ [(⟨t525,t526⟩ : S62)]) (wrap64 (x4_1 + 1))) else (none)) = some r := H
      have A8 := Aside0.mk A80
      clear A80
      by_cases c9 : x3_1.length < 8796093022208
      ·rw [if_pos c9] at H
       have LMc9 := Aside0.mk c9
       clear c9
       obtain ⟨y527,hy527⟩ : ∃ y_ : List (S62),y_ = (x3_1 ++ [(⟨t525,t526⟩ : S62)]) := ⟨_,rfl⟩
       replace H : (spec_leaves.l0 k1 l0 y527 (wrap64 (x4_1 + 1))) = some r := by first|(rw [hy527];with_reducible exact H)|(have H2_ := (Option.bind_some _ _).symm.trans H;rw [hy527];with_reducible exact H2_)|(have H2_ := (Option.bind_some _ _).symm.trans H;with_reducible exact H2_)|with_reducible exact H|(rw [hy527];exact H)|exact H
       have Ny527 := Aside0.mk hy527
       clear hy527
       have H' := Aside0.mk H
       clear H
       have p523 : 0 ≤ (x4_1 : Int) := of_decide_eq_true (by first|(with_reducible assumption)|assumption)
       have q523 : x4_1 < (l0.length : Int) := of_decide_eq_true (by first|(with_reducible assumption)|assumption)
       obtain ⟨ad523,e523,hx523_0,hx523_1,hx523_2,hx523_3⟩ := at_T46 HR0.out x4_1 p523 q523
       (try rw [← Nbq6.out] at hx523_1)
       cases e523
       replace hx523_0 := (HB.out.cell (World.block_lt_of_cell? w _ hx523_0)).trans hx523_0
       replace hx523_1 := (HB.out.cell (World.block_lt_of_cell? w _ hx523_1)).trans hx523_1
       replace hx523_2 := (HB.out.cell (World.block_lt_of_cell? w _ hx523_2)).trans hx523_2
       replace hx523_3 := (HB.out.cell (World.block_lt_of_cell? w _ hx523_3)).trans hx523_3
       replace p523 := eq_true p523
       replace q523 := eq_true q523
       have p524 : 0 ≤ (x4_1 : Int) := of_decide_eq_true (by first|(with_reducible assumption)|assumption)
       have q524 : x4_1 < (l0.length : Int) := of_decide_eq_true (by first|(with_reducible assumption)|assumption)
       obtain ⟨ad524,e524,hx524_0,hx524_1,hx524_2,hx524_3⟩ := at_T46 HR0.out x4_1 p524 q524
       (try rw [← Nbq6.out] at hx524_1)
       obtain rfl : ad523 = ad524 := (by injection e524)
       replace hx524_0 := (HB.out.cell (World.block_lt_of_cell? w _ hx524_0)).trans hx524_0
       replace hx524_1 := (HB.out.cell (World.block_lt_of_cell? w _ hx524_1)).trans hx524_1
       replace hx524_2 := (HB.out.cell (World.block_lt_of_cell? w _ hx524_2)).trans hx524_2
       replace hx524_3 := (HB.out.cell (World.block_lt_of_cell? w _ hx524_3)).trans hx524_3
       replace p524 := eq_true p524
       replace q524 := eq_true q524
       go_wp2_with (first|((with_reducible refine gate_callee (f := 56) rfl ?_);refine goesL_ (some 23) rfl rfl Try.func56 (by kernel_rfl) rfl #[.agg #[.int .i64 ((rd_T46 l0 x4_1).f0),.bool false,.int .i64 ((rd_T46 l0 x4_1).f2),.int .i64 ((rd_T46 l0 x4_1).f3)]] rfl (by (try simp only [List.map_toArray,List.map_cons,List.map_nil]);first|done|rfl|(simp only [List.length_drop,List.length_take];rfl)) ?_;(with_reducible refine (spec_leaf.calls ((rd_T46 l0 x4_1).f0) false ((rd_T46 l0 x4_1).f2) ((rd_T46 l0 x4_1).f3) t525 t526 _ A8.out).mono ?_);rintro e w10 ⟨rfl,hb⟩;refine ⟨_,rfl,?_⟩;have n0_ := Aside0.mk (Kd.R_below (by (with_reducible repeat (first|apply Kd.R_alloc|apply Kd.R_drewN|apply Kd.R_drew));exact HO_3.out) hb);have n1_ := Aside0.mk (below_step (by repeat (first|(with_reducible first|exact HB.out|apply below_alloc|apply pw_below_drewN|apply below_drew1)|exact HB.out)) hb);clear HO_3;clear HB;have HO_3 := n0_;have HB := n1_;clear n0_ n1_;(try clear hb);(try clear hb2);(try clear hk);(try clear hi))|((with_reducible refine gate_builtin (b := .append) (xs := #[.tmp 18,.tmp 24]) rfl ?_);at_builtin;refine Kd.R_append k62 (w0 := w) w.heap.size rfl (.tmp 18) (.tmp 24) 43 62 (.agg #[(.int .i64 0),(.int .i64 0)]) 16 rfl Try.underlying43 info62 rfl (by decide) (by omega) u3 x3_1 (⟨t525,t526⟩ : S62) [.int .i64 t525,.int .i64 t526] (fun _ => True) (fun _ => False) rfl rfl ?aP (fun _ hk => hk.elim) ?aF ?aO ?aB ?aS ?aL ?_;(case aP => exact k62_mkM _ _ _ (⟨t525,t526⟩ : S62));(case aB => exact (by repeat (first|(with_reducible first|exact HB.out|apply below_alloc|apply pw_below_drewN|apply below_drew1)|exact HB.out)));(case aF => exact (fun _ _ => trivial));(case aO => exact (by (with_reducible repeat (first|apply Kd.R_alloc|apply Kd.R_drewN|apply Kd.R_drew));exact HO_3.out));(case aS => exact (below_size (by repeat (first|(with_reducible first|exact HB.out|apply below_alloc|apply pw_below_drewN|apply below_drew1)|exact HB.out))));(case aL => have := LMc9.out;omega);intro v528 w11 ho hb hg hat;rw [← Ny527.out] at ho;have n0_ := Aside0.mk (hb);have n1_ := Aside0.mk (ho);clear HB;clear HO_3;have HB := n0_;have HO529 := n1_;clear n0_ n1_;clear ho hb hg hat))
       go_roundg k1
       case measure => have := HK1.out;omega
       case rel => exact ⟨(y527),(wrap64 (x4_1 + 1)),(by first|rfl|(simp;done)|(simp [*];done)),H',⟨by have := HK1.out;omega⟩,⟨by (with_reducible repeat (first|apply Kd.R_alloc|apply Kd.R_drewN|apply Kd.R_drew));exact HO529.out⟩,⟨by repeat (first|(with_reducible first|exact HB.out|apply below_alloc|apply pw_below_drewN|apply below_drew1)|exact HB.out)⟩⟩
      ·rw [if_neg c9] at H
       exact absurd H (by simp)
    ·rw [if_neg c5] at H
     exact absurd H (by simp)
   ·rw [if_neg c4] at H
    have c4b0 : decide (x4_1 < (l0.length : Int)) = false := decide_eq_false c4
    clear c4
    obtain rfl := Option.some.inj H
    go_wp2
    go_ret
    exact ⟨_,by first|rfl|(simp [errW_none,errW_some] <;> rfl)|(simp [*,errW_none,errW_some] <;> rfl),by (with_reducible repeat (first|apply Kd.R_alloc|apply Kd.R_drewN|apply Kd.R_drew));exact HO_3.out,by repeat (first|(with_reducible first|exact HB.out|apply below_alloc|apply pw_below_drewN|apply below_drew1)|exact HB.out)⟩
def spec_LeavesOf.f (k : Nat) (l0_0 : List (S70)) (l1 : List (S46)) : Option ((List (S62))) := (spec_validGroup.f k l0_0 l1).bind fun t531 => (if t531 = true then ((spec_leaves.f k l1).bind fun t532 => (some t532)) else (some ([] : List (S62))))
set_option maxHeartbeats 8000000 in
set_option maxRecDepth 100000 in
theorem spec_LeavesOf.calls (k : Nat) (A0_0 : Option Addr) (c0_0 : Nat) (l0_0 : List (S70)) (A1 : Option Addr) (c1 : Nat) (l1 : List (S46)) (r : List (S62)) (w : World) (hr0_0 : Kd.C k70 w A0_0 l0_0.length l0_0) (hc0_0 : l0_0.length ≤ c0_0) (hr1 : Kd.C k46 w A1 l1.length l1) (hc1 : l1.length ≤ c1) (h : spec_LeavesOf.f k l0_0 l1 = some r) :
  Calls Try.prog 24 #[.agg #[.slice A0_0 l0_0.length c0_0],.slice A1 l1.length c1] w fun e w' => ∃ v0_ : Value,e = .returned (v0_) ∧ Kd.R k62 62 w' w.heap.size (fun _ => True) v0_ r ∧ Below w.heap.size w w' := by
 have hu31 := Try.underlying31
 have HR0_0 := Aside0.mk hr0_0
 have HC0_0 := Aside0.mk hc0_0
 clear hr0_0 hc0_0
 have HR1 := Aside0.mk hr1
 have HC1 := Aside0.mk hc1
 clear hr1 hc1
 have HB := Aside0.mk (Below.refl w.heap.size w)
 have H : ((spec_validGroup.f k l0_0 l1).bind fun t531 => (if t531 = true then ((spec_leaves.f k l1).bind fun t532 => (some t532)) else (some ([] : List (S62))))) = some r := h
 clear h
 replace H := Option.bind_eq_some_iff.mp H
 obtain ⟨t531,A30,H⟩ := H
 replace H : (if t531 = true then ((spec_leaves.f k l1).bind fun t532 => (some t532)) else (some ([] : List (S62)))) = some r := H
 have A3 := Aside0.mk A30
 clear A30
 by_cases c4 : t531 = true
 ·subst c4
  have H1 : ((spec_leaves.f k l1).bind fun t532 => (some t532)) = some r := by rw [if_pos rfl] at H;exact H
  clear H
  have H := H1
  clear H1
  replace H := Option.bind_eq_some_iff.mp H
  obtain ⟨t532,A50,H⟩ := H
  replace H : (some t532) = some r := H
  have A5 := Aside0.mk A50
  clear A50
  obtain rfl := Option.some.inj H
  go_enter Try.func24,Try.ntmps24
  go_wp2_with (first|((with_reducible refine gate_dst (N := 2) rfl ?_);refine box_event ?hg (N := 2) ?hd (cs := #[.slice A0_0 l0_0.length c0_0]) (t := 31) ?hr ?_;(case hd => rfl);(case hg => rfl);(case hr => first|(go_simp;done)|(go_simp;rfl));intro gb530 hg w6 hbox hb;have n0_ := Aside0.mk (below_step (by repeat (first|(with_reducible first|exact HB.out|apply below_alloc|apply pw_below_drewN|apply below_drew1)|exact HB.out)) hb);have n1_ := Aside0.mk (hbox);have n2_ := Aside0.mk ((by rw [hg];exact (below_size (by repeat (first|(with_reducible first|exact HB.out|apply below_alloc|apply pw_below_drewN|apply below_drew1)|exact HB.out))) : w.heap.size ≤ gb530));have n3_ := Aside0.mk ((by rw [hg];exact (below_size (by repeat (first|(with_reducible first|exact HB.out|apply below_alloc|apply pw_below_drewN|apply below_drew1)|exact HB.out))) : w.heap.size ≤ gb530));clear HB;have HB := n0_;have BK530 := n1_;have GW530 := n2_;have GE530 := n3_;clear n0_ n1_ n2_ n3_;clear hb hbox hg;have hcz7_0 : w6.cell? ⟨gb530,0,none⟩ = some (.slice A0_0 l0_0.length c0_0) := (blk_cell BK530.out 0).trans rfl;have hfz7_0 := blk_frozen BK530.out 0)|((with_reducible refine gate_callee (f := 26) rfl ?_);refine goesL_ (some 7) rfl rfl Try.func26 (by kernel_rfl) rfl #[.agg #[.slice A0_0 l0_0.length c0_0],.slice A1 l1.length c1] rfl (by (try simp only [List.map_toArray,List.map_cons,List.map_nil]);first|done|rfl|(simp only [List.length_drop,List.length_take];rfl)) ?_;(with_reducible refine (spec_validGroup.calls k _ _ l0_0 _ _ l1 true _ ?side1 ?side2 ?side3 ?side4 A3.out).mono ?_);(case side1 => repeat (first|exact (Kd.C_below HR0_0.out HB.out)|(with_reducible refine Kd.C_alloc ?_ _)|(with_reducible refine Kd.C_drewN ?_ _)|(with_reducible refine Kd.C_drew ?_)));(case side2 => exact HC0_0.out);(case side3 => repeat (first|exact (Kd.C_below HR1.out HB.out)|(with_reducible refine Kd.C_alloc ?_ _)|(with_reducible refine Kd.C_drewN ?_ _)|(with_reducible refine Kd.C_drew ?_)));(case side4 => exact HC1.out);rintro e w8 ⟨rfl,hb⟩;refine ⟨_,rfl,?_⟩;have n0_ := Aside0.mk (blk_below (g := gb530) (o := .cells #[.slice A0_0 l0_0.length c0_0] 31 (0,0)) (by (with_reducible repeat (first|refine blk_drewN ?_ _|refine blk_drew ?_|refine blk_alloc ?_ _));exact BK530.out) hb);have n1_ := Aside0.mk (below_step (by repeat (first|(with_reducible first|exact HB.out|apply below_alloc|apply pw_below_drewN|apply below_drew1|refine below_set ?_ GE530.out)|exact HB.out)) hb);clear BK530;clear HB;have BK530 := n0_;have HB := n1_;clear n0_ n1_;(try clear hb);(try clear hb2);(try clear hk);(try clear hi))|((with_reducible refine gate_callee (f := 36) rfl ?_);refine goesL_ (some 10) rfl rfl Try.func36 (by kernel_rfl) rfl #[.slice A1 l1.length c1] rfl (by (try simp only [List.map_toArray,List.map_cons,List.map_nil]);first|done|rfl|(simp only [List.length_drop,List.length_take];rfl)) ?_;(with_reducible refine (spec_leaves.calls k _ _ l1 t532 _ ?side1 ?side2 A5.out).mono ?_);(case side1 => repeat (first|exact (Kd.C_below HR1.out HB.out)|(with_reducible refine Kd.C_alloc ?_ _)|(with_reducible refine Kd.C_drewN ?_ _)|(with_reducible refine Kd.C_drew ?_)));(case side2 => exact HC1.out);rintro e w9 ⟨v533,rfl,ho0,hb⟩;refine ⟨_,rfl,?_⟩;have n0_ := Aside0.mk (Kd.R_lower ho0 (below_size (by repeat (first|(with_reducible first|exact HB.out|apply below_alloc|apply pw_below_drewN|apply below_drew1|refine below_set ?_ GE530.out)|exact HB.out))));have n1_ := Aside0.mk (blk_below (g := gb530) (o := .cells #[.slice A0_0 l0_0.length c0_0] 31 (0,0)) (by (with_reducible repeat (first|refine blk_drewN ?_ _|refine blk_drew ?_|refine blk_alloc ?_ _));exact BK530.out) hb);have n2_ := Aside0.mk (below_step (by repeat (first|(with_reducible first|exact HB.out|apply below_alloc|apply pw_below_drewN|apply below_drew1|refine below_set ?_ GE530.out)|exact HB.out)) hb);clear BK530;clear HB;have HO534 := n0_;have BK530 := n1_;have HB := n2_;clear n0_ n1_ n2_;(try clear hb);(try clear hb2);(try clear hk);(try clear hi);(try clear ho0)))
  go_ret
  exact ⟨_,by first|rfl|(simp [errW_none,errW_some] <;> rfl)|(simp [*,errW_none,errW_some] <;> rfl),by (with_reducible repeat (first|apply Kd.R_alloc|apply Kd.R_drewN|apply Kd.R_drew));exact HO534.out,by repeat (first|(with_reducible first|exact HB.out|apply below_alloc|apply pw_below_drewN|apply below_drew1|refine below_set ?_ GE530.out)|exact HB.out)⟩
 ·replace c4 := Bool.eq_false_iff.mpr c4
  subst c4
  have H1 : (some ([] : List (S62))) = some r := by rw [if_neg (show ¬ (false = true) by decide)] at H;exact H
  clear H
  have H := H1
  clear H1
  obtain rfl := Option.some.inj H
  go_enter Try.func24,Try.ntmps24
  go_wp2_with (first|((with_reducible refine gate_dst (N := 2) rfl ?_);refine box_event ?hg (N := 2) ?hd (cs := #[.slice A0_0 l0_0.length c0_0]) (t := 31) ?hr ?_;(case hd => rfl);(case hg => rfl);(case hr => first|(go_simp;done)|(go_simp;rfl));intro gb530 hg w10 hbox hb;have n0_ := Aside0.mk (below_step (by repeat (first|(with_reducible first|exact HB.out|apply below_alloc|apply pw_below_drewN|apply below_drew1)|exact HB.out)) hb);have n1_ := Aside0.mk (hbox);have n2_ := Aside0.mk ((by rw [hg];exact (below_size (by repeat (first|(with_reducible first|exact HB.out|apply below_alloc|apply pw_below_drewN|apply below_drew1)|exact HB.out))) : w.heap.size ≤ gb530));have n3_ := Aside0.mk ((by rw [hg];exact (below_size (by repeat (first|(with_reducible first|exact HB.out|apply below_alloc|apply pw_below_drewN|apply below_drew1)|exact HB.out))) : w.heap.size ≤ gb530));clear HB;have HB := n0_;have BK530 := n1_;have GW530 := n2_;have GE530 := n3_;clear n0_ n1_ n2_ n3_;clear hb hbox hg;have hcz11_0 : w10.cell? ⟨gb530,0,none⟩ = some (.slice A0_0 l0_0.length c0_0) := (blk_cell BK530.out 0).trans rfl;have hfz11_0 := blk_frozen BK530.out 0)|((with_reducible refine gate_callee (f := 26) rfl ?_);refine goesL_ (some 7) rfl rfl Try.func26 (by kernel_rfl) rfl #[.agg #[.slice A0_0 l0_0.length c0_0],.slice A1 l1.length c1] rfl (by (try simp only [List.map_toArray,List.map_cons,List.map_nil]);first|done|rfl|(simp only [List.length_drop,List.length_take];rfl)) ?_;(with_reducible refine (spec_validGroup.calls k _ _ l0_0 _ _ l1 false _ ?side1 ?side2 ?side3 ?side4 A3.out).mono ?_);(case side1 => repeat (first|exact (Kd.C_below HR0_0.out HB.out)|(with_reducible refine Kd.C_alloc ?_ _)|(with_reducible refine Kd.C_drewN ?_ _)|(with_reducible refine Kd.C_drew ?_)));(case side2 => exact HC0_0.out);(case side3 => repeat (first|exact (Kd.C_below HR1.out HB.out)|(with_reducible refine Kd.C_alloc ?_ _)|(with_reducible refine Kd.C_drewN ?_ _)|(with_reducible refine Kd.C_drew ?_)));(case side4 => exact HC1.out);rintro e w12 ⟨rfl,hb⟩;refine ⟨_,rfl,?_⟩;have n0_ := Aside0.mk (blk_below (g := gb530) (o := .cells #[.slice A0_0 l0_0.length c0_0] 31 (0,0)) (by (with_reducible repeat (first|refine blk_drewN ?_ _|refine blk_drew ?_|refine blk_alloc ?_ _));exact BK530.out) hb);have n1_ := Aside0.mk (below_step (by repeat (first|(with_reducible first|exact HB.out|apply below_alloc|apply pw_below_drewN|apply below_drew1|refine below_set ?_ GE530.out)|exact HB.out)) hb);clear BK530;clear HB;have BK530 := n0_;have HB := n1_;clear n0_ n1_;(try clear hb);(try clear hb2);(try clear hk);(try clear hi)))
  go_ret
  exact ⟨_,by first|rfl|(simp [errW_none,errW_some] <;> rfl)|(simp [*,errW_none,errW_some] <;> rfl),by first|exact Kd.R_nil _ _ _ _ _|exact Kd.N_nil _ _ _ _ _|exact Kd.V_nil _ _ _ _ _|exact Kd.Q_nil _ _ _ _ _|exact Kd.S_nil _ _ _ _ _,by repeat (first|(with_reducible first|exact HB.out|apply below_alloc|apply pw_below_drewN|apply below_drew1|refine below_set ?_ GE530.out)|exact HB.out)⟩
mutual
def laws_FnLeavesOf.j0 : Nat → List (S46) → List (S62) → Bool → List (S70) → Option (Bool)
 | 0, _, _, _, _ => none
 | k + 1, x4, x5, x30, x542000 => if x30 = true then ((spec_LeavesOf.f k x542000 x4).bind fun t549 => ((laws_equalLeaves.f k x5 t549).bind fun t552 => (some t552))) else ((impl_KidsOf.f k x542000 x4).bind fun t556 => (laws_FnLeavesOf.l0 k x5 (([] : List (S62))) t556 0 x542000))
def laws_FnLeavesOf.l0 : Nat → List (S62) → List (S62) → List (List (S46)) → Int → List (S70) → Option (Bool)
 | 0, _, _, _, _, _ => none
 | k + 1, x5, x6, x7, x8, x542000 => if x8 < (x7.length : Int) then (if 0 ≤ x8 then ((impl_LeavesOf.f k x542000 (rd_L8 x7 x8)).bind fun t560 => (if x6.length + t560.length < 8796093022208 then (laws_FnLeavesOf.l0 k x5 (x6 ++ t560) x7 (wrap64 (x8 + 1)) x542000) else (none))) else (none)) else (if (x7.length : Int) = 0 then (if (x5.length : Int) = 1 then (some true) else ((laws_equalLeaves.f k x6 x5).bind fun t566 => (some t566))) else ((laws_equalLeaves.f k x6 x5).bind fun t567 => (some t567)))
end
def laws_FnLeavesOf.f (k : Nat) (l0 : List Int) : Option (Bool) := if (l0.length : Int) > 1048576 then (some true) else ((spec_DrawLeavesOf.f k l0).bind fun bt535 => ((impl_LeavesOf.f k bt535.1 bt535.2).bind fun t542 => ((spec_LeavesOf.f k bt535.1 bt535.2).bind fun t545 => ((laws_equalLeaves.f k t542 t545).bind fun t548 => (if t548 = true then (laws_FnLeavesOf.j0 k bt535.2 t542 ((t542.length : Int) == 0) bt535.1) else (laws_FnLeavesOf.j0 k bt535.2 t542 true bt535.1))))))
def laws_FnLeavesOf.T12 : Bool × List (List Nat × List Nat) := (true,[([],[]),([],[]),([],[]),([],[]),([2,3],[2,3]),([4],[4]),([1,5],[1,5]),([0,6,6],[0,6]),([7,7,0,1,2,3,4,5,6,7],[0,7])])
def laws_FnLeavesOf.B12 : List Nat := [0,0,0,0,12,28,62,127,255]
theorem laws_FnLeavesOf.tab12 : rtab .any (opsOf Try.f7 12) = laws_FnLeavesOf.T12 := by kernel_rfl
theorem laws_FnLeavesOf.bits12 : waitsOk laws_FnLeavesOf.T12.2 laws_FnLeavesOf.B12 = true := by kernel_rfl
set_option maxHeartbeats 8000000 in
set_option maxRecDepth 100000 in
theorem laws_FnLeavesOf.calls (k : Nat) (A0 : Option Addr) (c0 : Nat) (l0 : List Int) (r : Bool) (w : World) (hr0 : Kd.C (Kd.int .u8) w A0 l0.length l0) (hc0 : l0.length ≤ c0) (h : laws_FnLeavesOf.f k l0 = some r) :
  Calls Try.prog 7 #[.slice A0 l0.length c0] w fun e w' => e = .returned (.bool r) ∧ Below w.heap.size w w' := by
 have hu31 := Try.underlying31
 have HR0 := Aside0.mk hr0
 have HC0 := Aside0.mk hc0
 clear hr0 hc0
 have HB := Aside0.mk (Below.refl w.heap.size w)
 have H : (if (l0.length : Int) > 1048576 then (some true) else ((spec_DrawLeavesOf.f k l0).bind fun bt535 => ((impl_LeavesOf.f k bt535.1 bt535.2).bind fun t542 => ((spec_LeavesOf.f k bt535.1 bt535.2).bind fun t545 => ((laws_equalLeaves.f k t542 t545).bind fun t548 => (if t548 = true then (laws_FnLeavesOf.j0 k bt535.2 t542 ((t542.length : Int) == 0) bt535.1) else (laws_FnLeavesOf.j0 k bt535.2 t542 true bt535.1))))))) = some r := h
 clear h
 by_cases c2 : (l0.length : Int) > 1048576
 ·rw [if_pos c2] at H
  have c2b0 : decide (1048576 < (l0.length : Int)) = true := decide_eq_true c2
  have c2b1 : decide (1048576 < l0.length) = true := decide_eq_true (by omega)
  clear c2
  obtain rfl := Option.some.inj H
  go_enter Try.func7,Try.ntmps7
  go_wp2
  go_ret
  exact ⟨by first|rfl|(simp [errW_none,errW_some] <;> rfl)|(simp [*,errW_none,errW_some] <;> rfl),by repeat (first|(with_reducible first|exact HB.out|apply below_alloc|apply pw_below_drewN|apply below_drew1)|exact HB.out)⟩
 ·rw [if_neg c2] at H
  have c2b0 : decide (1048576 < (l0.length : Int)) = false := decide_eq_false c2
  have c2b1 : decide (1048576 < l0.length) = false := decide_eq_false (by omega)
  clear c2
  replace H := Option.bind_eq_some_iff.mp H
  obtain ⟨⟨t535,t538⟩,A30,H⟩ := H
  replace H : ((impl_LeavesOf.f k t535 t538).bind fun t542 => ((spec_LeavesOf.f k t535 t538).bind fun t545 => ((laws_equalLeaves.f k t542 t545).bind fun t548 => (if t548 = true then (laws_FnLeavesOf.j0 k t538 t542 ((t542.length : Int) == 0) t535) else (laws_FnLeavesOf.j0 k t538 t542 true t535))))) = some r := H
  have A3 := Aside0.mk A30
  clear A30
  replace H := Option.bind_eq_some_iff.mp H
  obtain ⟨t542,A40,H⟩ := H
  replace H : ((spec_LeavesOf.f k t535 t538).bind fun t545 => ((laws_equalLeaves.f k t542 t545).bind fun t548 => (if t548 = true then (laws_FnLeavesOf.j0 k t538 t542 ((t542.length : Int) == 0) t535) else (laws_FnLeavesOf.j0 k t538 t542 true t535)))) = some r := H
  have A4 := Aside0.mk A40
  clear A40
  have HC5 := Aside0.mk H
  clear H
  go_enter Try.func7,Try.ntmps7
  go_upto_region 5 with (first|((with_reducible refine gate_callee (f := 22) rfl ?_);refine goesL_ (some 14) rfl rfl Try.func22 (by kernel_rfl) rfl #[.slice A0 l0.length c0] rfl (by (try simp only [List.map_toArray,List.map_cons,List.map_nil]);first|done|rfl|(simp only [List.length_drop,List.length_take];rfl)) ?_;(with_reducible refine (spec_DrawLeavesOf.calls k _ _ l0 t535 t538 _ ?side1 ?side2 A3.out).mono ?_);(case side1 => repeat (first|exact HR0.out|(with_reducible refine Kd.C_alloc ?_ _)|(with_reducible refine Kd.C_drewN ?_ _)|(with_reducible refine Kd.C_drew ?_)));(case side2 => exact HC0.out);rintro e w6 ⟨v536,v539,rfl,ho0,ho1,hb⟩;refine ⟨_,rfl,?_⟩;have n0_ := Aside0.mk (Kd.R_lower ho0 (below_size (by repeat (first|(with_reducible first|exact HB.out|apply below_alloc|apply pw_below_drewN|apply below_drew1)|exact HB.out))));have n1_ := Aside0.mk (Kd.R_lower ho1 (below_size (by repeat (first|(with_reducible first|exact HB.out|apply below_alloc|apply pw_below_drewN|apply below_drew1)|exact HB.out))));have n2_ := Aside0.mk (below_step (by repeat (first|(with_reducible first|exact HB.out|apply below_alloc|apply pw_below_drewN|apply below_drew1)|exact HB.out)) hb);clear HB;have HO537 := n0_;have HO540 := n1_;have HB := n2_;clear n0_ n1_ n2_;(try clear hb);(try clear hb2);(try clear hk);(try clear hi);(try clear ho0);(try clear ho1))|((with_reducible refine gate_dst (N := 3) rfl ?_);(try (refine gate_guard (by rfl) ?_;dsimp only));refine box_event ?hg (N := 3) ?hd (cs := #[.slice none 0 0]) (t := 31) ?hr ?_;(case hd => rfl);(case hg => rfl);(case hr => first|(go_simp;done)|(go_simp;rfl));intro gb541 hg w7 hbox hb;have n0_ := Aside0.mk (Kd.R_below (by (with_reducible repeat (first|apply Kd.R_alloc|apply Kd.R_drewN|apply Kd.R_drew));exact HO537.out) hb);have n1_ := Aside0.mk (Kd.R_below (by (with_reducible repeat (first|apply Kd.R_alloc|apply Kd.R_drewN|apply Kd.R_drew));exact HO540.out) hb);have n2_ := Aside0.mk (below_step (by repeat (first|(with_reducible first|exact HB.out|apply below_alloc|apply pw_below_drewN|apply below_drew1)|exact HB.out)) hb);have n3_ := Aside0.mk (hbox);have n4_ := Aside0.mk ((by rw [hg];exact (below_size (by repeat (first|(with_reducible first|exact HB.out|apply below_alloc|apply pw_below_drewN|apply below_drew1)|exact HB.out))) : w.heap.size ≤ gb541));have n5_ := Aside0.mk ((by rw [hg];exact (below_size (by repeat (first|(with_reducible first|exact HB.out|apply below_alloc|apply pw_below_drewN|apply below_drew1)|exact HB.out))) : w.heap.size ≤ gb541));clear HO537;clear HO540;clear HB;have HO537 := n0_;have HO540 := n1_;have HB := n2_;have BK541 := n3_;have GW541 := n4_;have GE541 := n5_;clear n0_ n1_ n2_ n3_ n4_ n5_;clear hb hbox hg;obtain ⟨Ao8,co8,eo8⟩ := Kd.R_slice HO537.out;subst eo8;have hcz9_0 : w7.cell? ⟨gb541,0,none⟩ = some (.slice none 0 0) := (blk_cell BK541.out 0).trans rfl;have hfz9_0 := blk_frozen BK541.out 0;obtain ⟨Ao10,co10,eo10⟩ := Kd.R_slice HO540.out;subst eo10)|((with_reducible refine gate_callee (f := 18) rfl ?_);refine goesL_ (some 19) rfl rfl Try.func18 (by kernel_rfl) rfl #[.agg #[.slice Ao8 t535.length co8],.slice Ao10 t538.length co10] rfl (by (try simp only [List.map_toArray,List.map_cons,List.map_nil]);first|done|rfl|(simp only [List.length_drop,List.length_take];rfl)) ?_;(with_reducible refine (impl_LeavesOf.calls k _ _ t535 _ _ t538 t542 _ ?side1 ?side2 ?side3 ?side4 A4.out).mono ?_);(case side1 => refine (Kd.R_reads' (e := 70) (base := w.heap.size) (ok := fun k_ => True) (n := t535.length) (c := co8) ?_).2.2;exact (by (with_reducible repeat (first|apply Kd.R_alloc|apply Kd.R_drewN|apply Kd.R_drew));exact (Kd.R_mono (Kd.R_far (p := ⟨gb541,0,none⟩) (Kd.R_types HO537.out BK541.out (by decide)) (fun _ hk => hk.2) (.slice Ao8 t535.length co8)) (fun _ h_ => h_.1))));(case side2 => exact (Kd.R_reads' HO537.out).2.1);(case side3 => refine (Kd.R_reads' (e := 46) (base := w.heap.size) (ok := fun k_ => True) (n := t538.length) (c := co10) ?_).2.2;exact (by (with_reducible repeat (first|apply Kd.R_alloc|apply Kd.R_drewN|apply Kd.R_drew));exact (Kd.R_mono (Kd.R_far (p := ⟨gb541,0,none⟩) (Kd.R_types HO540.out BK541.out (by decide)) (fun _ hk => hk.2) (.slice Ao8 t535.length co8)) (fun _ h_ => h_.1))));(case side4 => exact (Kd.R_reads' HO540.out).2.1);rintro e w11 ⟨v543,rfl,ho0,hb⟩;refine ⟨_,rfl,?_⟩;have n0_ := Aside0.mk (Kd.R_below (by (with_reducible repeat (first|apply Kd.R_alloc|apply Kd.R_drewN|apply Kd.R_drew));exact (Kd.R_mono (Kd.R_far (p := ⟨gb541,0,none⟩) (Kd.R_types HO537.out BK541.out (by decide)) (fun _ hk => hk.2) (.slice Ao8 t535.length co8)) (fun _ h_ => h_.1))) hb);have n1_ := Aside0.mk (Kd.R_below (by (with_reducible repeat (first|apply Kd.R_alloc|apply Kd.R_drewN|apply Kd.R_drew));exact (Kd.R_mono (Kd.R_far (p := ⟨gb541,0,none⟩) (Kd.R_types HO540.out BK541.out (by decide)) (fun _ hk => hk.2) (.slice Ao8 t535.length co8)) (fun _ h_ => h_.1))) hb);have n2_ := Aside0.mk (Kd.R_lower ho0 (below_size (by repeat (first|(with_reducible first|exact HB.out|apply below_alloc|apply pw_below_drewN|apply below_drew1|refine below_set ?_ GE541.out)|exact HB.out))));have n3_ := Aside0.mk (blk_below (g := gb541) (o := .cells #[.slice Ao8 t535.length co8] 31 (0,0)) (by (with_reducible repeat (first|refine blk_drewN ?_ _|refine blk_drew ?_|refine blk_alloc ?_ _));refine blk_put (cs := #[.slice none 0 0]) ?_ 0 _ rfl;(with_reducible repeat (first|refine blk_drewN ?_ _|refine blk_drew ?_|refine blk_alloc ?_ _));exact BK541.out) hb);have n4_ := Aside0.mk (below_step (by repeat (first|(with_reducible first|exact HB.out|apply below_alloc|apply pw_below_drewN|apply below_drew1|refine below_set ?_ GE541.out)|exact HB.out)) hb);clear HO537;clear HO540;clear BK541;clear HB;have HO537 := n0_;have HO540 := n1_;have HO544 := n2_;have BK541 := n3_;have HB := n4_;clear n0_ n1_ n2_ n3_ n4_;(try clear hb);(try clear hb2);(try clear hk);(try clear hi);(try clear ho0)))
  (try simp only [Act.put,List.setIfInBounds_toArray,List.set_cons_zero,List.set_cons_succ])
  go_cut [30] (fun v30 wc => ∃ (kq : Nat) (x30_4 : Bool),v30 = .bool x30_4 ∧ Aside0 (laws_FnLeavesOf.j0 kq t538 t542 x30_4 t535 = some r) ∧ Aside0 (kq ≤ k) ∧ Aside0 (Kd.R k46 46 wc w.heap.size (fun _ => True) (.slice Ao10 t538.length co10) t538) ∧ Aside0 (Kd.R k62 62 wc w.heap.size (fun _ => True) v543 t542) ∧ Aside0 (Kd.R k70 70 wc w.heap.size (fun _ => True) (.slice Ao8 t535.length co8) t535) ∧ Aside0 (wc.heap[gb541]? = some (.cells #[(.slice Ao8 t535.length co8)] 31 (0,0))) ∧ Aside0 (Below w.heap.size w wc))
  case first =>
   have H := HC5.out
   clear HC5
   replace H := Option.bind_eq_some_iff.mp H
   obtain ⟨t545,A120,H⟩ := H
   replace H : ((laws_equalLeaves.f k t542 t545).bind fun t548 => (if t548 = true then (laws_FnLeavesOf.j0 k t538 t542 ((t542.length : Int) == 0) t535) else (laws_FnLeavesOf.j0 k t538 t542 true t535))) = some r := H
   have A12 := Aside0.mk A120
   clear A120
   replace H := Option.bind_eq_some_iff.mp H
   obtain ⟨t548,A130,H⟩ := H
   replace H : (if t548 = true then (laws_FnLeavesOf.j0 k t538 t542 ((t542.length : Int) == 0) t535) else (laws_FnLeavesOf.j0 k t538 t542 true t535)) = some r := H
   have A13 := Aside0.mk A130
   clear A130
   by_cases c14 : t548 = true
   ·subst c14
    have H1 : (laws_FnLeavesOf.j0 k t538 t542 ((t542.length : Int) == 0) t535) = some r := by rw [if_pos rfl] at H;exact H
    clear H
    have H := H1
    clear H1
    have H' := Aside0.mk H
    clear H
    have hcz15_0 : w11.cell? ⟨gb541,0,none⟩ = some (.slice Ao8 t535.length co8) := (blk_cell BK541.out 0).trans rfl
    have hfz15_0 := blk_frozen BK541.out 0
    go_wp2_with (first|((with_reducible refine gate_callee (f := 24) rfl ?_);refine goesL_ (some 23) rfl rfl Try.func24 (by kernel_rfl) rfl #[.agg #[.slice Ao8 t535.length co8],.slice Ao10 t538.length co10] rfl (by (try simp only [List.map_toArray,List.map_cons,List.map_nil]);first|done|rfl|(simp only [List.length_drop,List.length_take];rfl)) ?_;(with_reducible refine (spec_LeavesOf.calls k _ _ t535 _ _ t538 t545 _ ?side1 ?side2 ?side3 ?side4 A12.out).mono ?_);(case side1 => repeat (first|exact (Kd.R_reads' HO537.out).2.2|(with_reducible refine Kd.C_alloc ?_ _)|(with_reducible refine Kd.C_drewN ?_ _)|(with_reducible refine Kd.C_drew ?_)));(case side2 => exact (Kd.R_reads' HO537.out).2.1);(case side3 => repeat (first|exact (Kd.R_reads' HO540.out).2.2|(with_reducible refine Kd.C_alloc ?_ _)|(with_reducible refine Kd.C_drewN ?_ _)|(with_reducible refine Kd.C_drew ?_)));(case side4 => exact (Kd.R_reads' HO540.out).2.1);rintro e w16 ⟨v546,rfl,ho0,hb⟩;refine ⟨_,rfl,?_⟩;have n0_ := Aside0.mk (Kd.R_below (by (with_reducible repeat (first|apply Kd.R_alloc|apply Kd.R_drewN|apply Kd.R_drew));exact HO537.out) hb);have n1_ := Aside0.mk (Kd.R_below (by (with_reducible repeat (first|apply Kd.R_alloc|apply Kd.R_drewN|apply Kd.R_drew));exact HO540.out) hb);have n2_ := Aside0.mk (Kd.R_elder' (by (with_reducible repeat (first|apply Kd.R_alloc|apply Kd.R_drewN|apply Kd.R_drew));exact HO544.out) (Kd.R_base ho0) hb);have n3_ := Aside0.mk (Kd.R_lower (Kd.R_new' ho0 (Kd.R_lt (by (with_reducible repeat (first|apply Kd.R_alloc|apply Kd.R_drewN|apply Kd.R_drew));exact HO544.out))) (below_size (by repeat (first|(with_reducible first|exact HB.out|apply below_alloc|apply pw_below_drewN|apply below_drew1|refine below_set ?_ GE541.out)|exact HB.out))));have n4_ := Aside0.mk (blk_below (g := gb541) (o := .cells #[.slice Ao8 t535.length co8] 31 (0,0)) (by (with_reducible repeat (first|refine blk_drewN ?_ _|refine blk_drew ?_|refine blk_alloc ?_ _));exact BK541.out) hb);have n5_ := Aside0.mk (below_step (by repeat (first|(with_reducible first|exact HB.out|apply below_alloc|apply pw_below_drewN|apply below_drew1|refine below_set ?_ GE541.out)|exact HB.out)) hb);clear HO537;clear HO540;clear HO544;clear BK541;clear HB;have HO537 := n0_;have HO540 := n1_;have HO544 := n2_;have HO547 := n3_;have BK541 := n4_;have HB := n5_;clear n0_ n1_ n2_ n3_ n4_ n5_;(try clear hb);(try clear hb2);(try clear hk);(try clear hi);(try clear ho0);obtain ⟨Ao17,co17,eo17⟩ := Kd.R_slice HO544.out;subst eo17;obtain ⟨Ao18,co18,eo18⟩ := Kd.R_slice HO547.out;subst eo18)|((with_reducible refine gate_callee (f := 23) rfl ?_);refine goesL_ (some 24) rfl rfl Try.func23 (by kernel_rfl) rfl #[.slice Ao17 t542.length co17,.slice Ao18 t545.length co18] rfl (by (try simp only [List.map_toArray,List.map_cons,List.map_nil]);first|done|rfl|(simp only [List.length_drop,List.length_take];rfl)) ?_;(with_reducible refine (laws_equalLeaves.calls k _ _ t542 _ _ t545 true _ ?side1 ?side2 ?side3 ?side4 A13.out).mono ?_);(case side1 => repeat (first|exact (Kd.R_reads' HO544.out).2.2|(with_reducible refine Kd.C_alloc ?_ _)|(with_reducible refine Kd.C_drewN ?_ _)|(with_reducible refine Kd.C_drew ?_)));(case side2 => exact (Kd.R_reads' HO544.out).2.1);(case side3 => repeat (first|exact (Kd.R_reads' HO547.out).2.2|(with_reducible refine Kd.C_alloc ?_ _)|(with_reducible refine Kd.C_drewN ?_ _)|(with_reducible refine Kd.C_drew ?_)));(case side4 => exact (Kd.R_reads' HO547.out).2.1);rintro e w' ⟨rfl,⟨nd,rfl⟩⟩;refine ⟨_,rfl,?_⟩))
    go_meet
    case rel => exact ⟨_,(((t542.length : Int) == 0)),(by first|rfl|(simp;done)|(simp [*];done)),H',⟨by first|omega|exact Nat.le_refl _⟩,⟨by (with_reducible repeat (first|apply Kd.R_alloc|apply Kd.R_drewN|apply Kd.R_drew));exact HO540.out⟩,⟨by (with_reducible repeat (first|apply Kd.R_alloc|apply Kd.R_drewN|apply Kd.R_drew));exact Kd.R_mono HO544.out (fun _ hk => trivial)⟩,⟨by (with_reducible repeat (first|apply Kd.R_alloc|apply Kd.R_drewN|apply Kd.R_drew));exact HO537.out⟩,⟨by (with_reducible repeat (first|refine blk_drewN ?_ _|refine blk_drew ?_|refine blk_alloc ?_ _));exact BK541.out⟩,⟨by repeat (first|(with_reducible first|exact HB.out|apply below_alloc|apply pw_below_drewN|apply below_drew1|refine below_set ?_ GE541.out)|exact HB.out)⟩⟩
   ·replace c14 := Bool.eq_false_iff.mpr c14
    subst c14
    have H1 : (laws_FnLeavesOf.j0 k t538 t542 true t535) = some r := by rw [if_neg (show ¬ (false = true) by decide)] at H;exact H
    clear H
    have H := H1
    clear H1
    have H' := Aside0.mk H
    clear H
    have hcz19_0 : w11.cell? ⟨gb541,0,none⟩ = some (.slice Ao8 t535.length co8) := (blk_cell BK541.out 0).trans rfl
    have hfz19_0 := blk_frozen BK541.out 0
    go_wp2_with (first|((with_reducible refine gate_callee (f := 24) rfl ?_);refine goesL_ (some 23) rfl rfl Try.func24 (by kernel_rfl) rfl #[.agg #[.slice Ao8 t535.length co8],.slice Ao10 t538.length co10] rfl (by (try simp only [List.map_toArray,List.map_cons,List.map_nil]);first|done|rfl|(simp only [List.length_drop,List.length_take];rfl)) ?_;(with_reducible refine (spec_LeavesOf.calls k _ _ t535 _ _ t538 t545 _ ?side1 ?side2 ?side3 ?side4 A12.out).mono ?_);(case side1 => repeat (first|exact (Kd.R_reads' HO537.out).2.2|(with_reducible refine Kd.C_alloc ?_ _)|(with_reducible refine Kd.C_drewN ?_ _)|(with_reducible refine Kd.C_drew ?_)));(case side2 => exact (Kd.R_reads' HO537.out).2.1);(case side3 => repeat (first|exact (Kd.R_reads' HO540.out).2.2|(with_reducible refine Kd.C_alloc ?_ _)|(with_reducible refine Kd.C_drewN ?_ _)|(with_reducible refine Kd.C_drew ?_)));(case side4 => exact (Kd.R_reads' HO540.out).2.1);rintro e w20 ⟨v546,rfl,ho0,hb⟩;refine ⟨_,rfl,?_⟩;have n0_ := Aside0.mk (Kd.R_below (by (with_reducible repeat (first|apply Kd.R_alloc|apply Kd.R_drewN|apply Kd.R_drew));exact HO537.out) hb);have n1_ := Aside0.mk (Kd.R_below (by (with_reducible repeat (first|apply Kd.R_alloc|apply Kd.R_drewN|apply Kd.R_drew));exact HO540.out) hb);have n2_ := Aside0.mk (Kd.R_elder' (by (with_reducible repeat (first|apply Kd.R_alloc|apply Kd.R_drewN|apply Kd.R_drew));exact HO544.out) (Kd.R_base ho0) hb);have n3_ := Aside0.mk (Kd.R_lower (Kd.R_new' ho0 (Kd.R_lt (by (with_reducible repeat (first|apply Kd.R_alloc|apply Kd.R_drewN|apply Kd.R_drew));exact HO544.out))) (below_size (by repeat (first|(with_reducible first|exact HB.out|apply below_alloc|apply pw_below_drewN|apply below_drew1|refine below_set ?_ GE541.out)|exact HB.out))));have n4_ := Aside0.mk (blk_below (g := gb541) (o := .cells #[.slice Ao8 t535.length co8] 31 (0,0)) (by (with_reducible repeat (first|refine blk_drewN ?_ _|refine blk_drew ?_|refine blk_alloc ?_ _));exact BK541.out) hb);have n5_ := Aside0.mk (below_step (by repeat (first|(with_reducible first|exact HB.out|apply below_alloc|apply pw_below_drewN|apply below_drew1|refine below_set ?_ GE541.out)|exact HB.out)) hb);clear HO537;clear HO540;clear HO544;clear BK541;clear HB;have HO537 := n0_;have HO540 := n1_;have HO544 := n2_;have HO547 := n3_;have BK541 := n4_;have HB := n5_;clear n0_ n1_ n2_ n3_ n4_ n5_;(try clear hb);(try clear hb2);(try clear hk);(try clear hi);(try clear ho0);obtain ⟨Ao21,co21,eo21⟩ := Kd.R_slice HO544.out;subst eo21;obtain ⟨Ao22,co22,eo22⟩ := Kd.R_slice HO547.out;subst eo22)|((with_reducible refine gate_callee (f := 23) rfl ?_);refine goesL_ (some 24) rfl rfl Try.func23 (by kernel_rfl) rfl #[.slice Ao21 t542.length co21,.slice Ao22 t545.length co22] rfl (by (try simp only [List.map_toArray,List.map_cons,List.map_nil]);first|done|rfl|(simp only [List.length_drop,List.length_take];rfl)) ?_;(with_reducible refine (laws_equalLeaves.calls k _ _ t542 _ _ t545 false _ ?side1 ?side2 ?side3 ?side4 A13.out).mono ?_);(case side1 => repeat (first|exact (Kd.R_reads' HO544.out).2.2|(with_reducible refine Kd.C_alloc ?_ _)|(with_reducible refine Kd.C_drewN ?_ _)|(with_reducible refine Kd.C_drew ?_)));(case side2 => exact (Kd.R_reads' HO544.out).2.1);(case side3 => repeat (first|exact (Kd.R_reads' HO547.out).2.2|(with_reducible refine Kd.C_alloc ?_ _)|(with_reducible refine Kd.C_drewN ?_ _)|(with_reducible refine Kd.C_drew ?_)));(case side4 => exact (Kd.R_reads' HO547.out).2.1);rintro e w' ⟨rfl,⟨nd,rfl⟩⟩;refine ⟨_,rfl,?_⟩))
    go_meet
    case rel => exact ⟨_,(true),(by first|rfl|(simp;done)|(simp [*];done)),H',⟨by first|omega|exact Nat.le_refl _⟩,⟨by (with_reducible repeat (first|apply Kd.R_alloc|apply Kd.R_drewN|apply Kd.R_drew));exact HO540.out⟩,⟨by (with_reducible repeat (first|apply Kd.R_alloc|apply Kd.R_drewN|apply Kd.R_drew));exact Kd.R_mono HO544.out (fun _ hk => trivial)⟩,⟨by (with_reducible repeat (first|apply Kd.R_alloc|apply Kd.R_drewN|apply Kd.R_drew));exact HO537.out⟩,⟨by (with_reducible repeat (first|refine blk_drewN ?_ _|refine blk_drew ?_|refine blk_alloc ?_ _));exact BK541.out⟩,⟨by repeat (first|(with_reducible first|exact HB.out|apply below_alloc|apply pw_below_drewN|apply below_drew1|refine below_set ?_ GE541.out)|exact HB.out)⟩⟩
  case rest =>
   clear HC5
   try clear c1
   try clear c2
   try clear c2b0
   try clear c2b1
   try clear p2
   try clear c7
   try clear c14
   try clear c18
   try clear c22
   try clear hcz15_0
   try clear hcz19_0
   try clear hcz9_0
   try clear hfz15_0
   try clear hfz19_0
   try clear hfz9_0
   obtain ⟨kq,x30_4,rfl,HA,HJ4,HO_4,HO_5,HO_542000,BK541,HB⟩ := hcut
   cases kq with
   | zero => exact absurd HA.out (by simp [laws_FnLeavesOf.j0])
   | succ kj4 =>
    have H := HA.out
    clear HA
    simp only [laws_FnLeavesOf.j0] at H
    by_cases c23 : x30_4 = true
    ·subst c23
     have H1 : ((spec_LeavesOf.f kj4 t535 t538).bind fun t549 => ((laws_equalLeaves.f kj4 t542 t549).bind fun t552 => (some t552))) = some r := by rw [if_pos rfl] at H;exact H
     clear H
     have H := H1
     clear H1
     replace H := Option.bind_eq_some_iff.mp H
     obtain ⟨t549,A240,H⟩ := H
     replace H : ((laws_equalLeaves.f kj4 t542 t549).bind fun t552 => (some t552)) = some r := H
     have A24 := Aside0.mk A240
     clear A240
     replace H := Option.bind_eq_some_iff.mp H
     obtain ⟨t552,A250,H⟩ := H
     replace H : (some t552) = some r := H
     have A25 := Aside0.mk A250
     clear A250
     obtain rfl := Option.some.inj H
     have hcz26_0 : wc.cell? ⟨gb541,0,none⟩ = some (.slice Ao8 t535.length co8) := (blk_cell BK541.out 0).trans rfl
     have hfz26_0 := blk_frozen BK541.out 0
     go_wp2_with (first|((with_reducible refine gate_callee (f := 24) rfl ?_);refine goesL_ (some 34) rfl rfl Try.func24 (by kernel_rfl) rfl #[.agg #[.slice Ao8 t535.length co8],.slice Ao10 t538.length co10] rfl (by (try simp only [List.map_toArray,List.map_cons,List.map_nil]);first|done|rfl|(simp only [List.length_drop,List.length_take];rfl)) ?_;(with_reducible refine (spec_LeavesOf.calls kj4 _ _ t535 _ _ t538 t549 _ ?side1 ?side2 ?side3 ?side4 A24.out).mono ?_);(case side1 => repeat (first|exact (Kd.R_reads' HO_542000.out).2.2|(with_reducible refine Kd.C_alloc ?_ _)|(with_reducible refine Kd.C_drewN ?_ _)|(with_reducible refine Kd.C_drew ?_)));(case side2 => exact (Kd.R_reads' HO_542000.out).2.1);(case side3 => repeat (first|exact (Kd.R_reads' HO_4.out).2.2|(with_reducible refine Kd.C_alloc ?_ _)|(with_reducible refine Kd.C_drewN ?_ _)|(with_reducible refine Kd.C_drew ?_)));(case side4 => exact (Kd.R_reads' HO_4.out).2.1);rintro e w27 ⟨v550,rfl,ho0,hb⟩;refine ⟨_,rfl,?_⟩;have n0_ := Aside0.mk (Kd.R_below (by (with_reducible repeat (first|apply Kd.R_alloc|apply Kd.R_drewN|apply Kd.R_drew));exact HO_4.out) hb);have n1_ := Aside0.mk (Kd.R_elder' (by (with_reducible repeat (first|apply Kd.R_alloc|apply Kd.R_drewN|apply Kd.R_drew));exact HO_5.out) (Kd.R_base ho0) hb);have n2_ := Aside0.mk (Kd.R_below (by (with_reducible repeat (first|apply Kd.R_alloc|apply Kd.R_drewN|apply Kd.R_drew));exact HO_542000.out) hb);have n3_ := Aside0.mk (Kd.R_lower (Kd.R_new' ho0 (Kd.R_lt (by (with_reducible repeat (first|apply Kd.R_alloc|apply Kd.R_drewN|apply Kd.R_drew));exact HO_5.out))) (below_size (by repeat (first|(with_reducible first|exact HB.out|apply below_alloc|apply pw_below_drewN|apply below_drew1|refine below_set ?_ GE541.out)|exact HB.out))));have n4_ := Aside0.mk (blk_below (g := gb541) (o := .cells #[.slice Ao8 t535.length co8] 31 (0,0)) (by (with_reducible repeat (first|refine blk_drewN ?_ _|refine blk_drew ?_|refine blk_alloc ?_ _));exact BK541.out) hb);have n5_ := Aside0.mk (below_step (by repeat (first|(with_reducible first|exact HB.out|apply below_alloc|apply pw_below_drewN|apply below_drew1|refine below_set ?_ GE541.out)|exact HB.out)) hb);clear HO_4;clear HO_5;clear HO_542000;clear BK541;clear HB;have HO_4 := n0_;have HO_5 := n1_;have HO_542000 := n2_;have HO551 := n3_;have BK541 := n4_;have HB := n5_;clear n0_ n1_ n2_ n3_ n4_ n5_;(try clear hb);(try clear hb2);(try clear hk);(try clear hi);(try clear ho0);obtain ⟨Ao28,co28,eo28⟩ := Kd.R_slice HO_5.out;subst eo28;obtain ⟨Ao29,co29,eo29⟩ := Kd.R_slice HO551.out;subst eo29)|((with_reducible refine gate_callee (f := 23) rfl ?_);refine goesL_ (some 35) rfl rfl Try.func23 (by kernel_rfl) rfl #[.slice Ao28 t542.length co28,.slice Ao29 t549.length co29] rfl (by (try simp only [List.map_toArray,List.map_cons,List.map_nil]);first|done|rfl|(simp only [List.length_drop,List.length_take];rfl)) ?_;(with_reducible refine (laws_equalLeaves.calls kj4 _ _ t542 _ _ t549 t552 _ ?side1 ?side2 ?side3 ?side4 A25.out).mono ?_);(case side1 => repeat (first|exact (Kd.R_reads' HO_5.out).2.2|(with_reducible refine Kd.C_alloc ?_ _)|(with_reducible refine Kd.C_drewN ?_ _)|(with_reducible refine Kd.C_drew ?_)));(case side2 => exact (Kd.R_reads' HO_5.out).2.1);(case side3 => repeat (first|exact (Kd.R_reads' HO551.out).2.2|(with_reducible refine Kd.C_alloc ?_ _)|(with_reducible refine Kd.C_drewN ?_ _)|(with_reducible refine Kd.C_drew ?_)));(case side4 => exact (Kd.R_reads' HO551.out).2.1);rintro e w' ⟨rfl,⟨nd,rfl⟩⟩;refine ⟨_,rfl,?_⟩))
     go_ret
     exact ⟨by first|rfl|(simp [errW_none,errW_some] <;> rfl)|(simp [*,errW_none,errW_some] <;> rfl),by repeat (first|(with_reducible first|exact HB.out|apply below_alloc|apply pw_below_drewN|apply below_drew1|refine below_set ?_ GE541.out)|exact HB.out)⟩
    ·replace c23 := Bool.eq_false_iff.mpr c23
     subst c23
     have H1 : ((impl_KidsOf.f kj4 t535 t538).bind fun t556 => (laws_FnLeavesOf.l0 kj4 t542 (([] : List (S62))) t556 0 t535)) = some r := by rw [if_neg (show ¬ (false = true) by decide)] at H;exact H
     clear H
     have H := H1
     clear H1
     obtain ⟨y553,hy553⟩ : ∃ y_ : List (S62),y_ = (([] : List (S62))) := ⟨_,rfl⟩
     replace H : ((impl_KidsOf.f kj4 t535 t538).bind fun t556 => (laws_FnLeavesOf.l0 kj4 t542 y553 t556 0 t535)) = some r := by first|(rw [hy553];with_reducible exact H)|(have H2_ := (Option.bind_some _ _).symm.trans H;rw [hy553];with_reducible exact H2_)|(have H2_ := (Option.bind_some _ _).symm.trans H;with_reducible exact H2_)|with_reducible exact H|(rw [hy553];exact H)|exact H
     have Ny553 := Aside0.mk hy553
     clear hy553
     replace H := Option.bind_eq_some_iff.mp H
     obtain ⟨t556,A300,H⟩ := H
     replace H : (laws_FnLeavesOf.l0 kj4 t542 y553 t556 0 t535) = some r := H
     have A30 := Aside0.mk A300
     clear A300
     have H' := Aside0.mk H
     clear H
     go_wp2_with (first|((with_reducible refine gate_dst (N := 36) rfl ?_);(try (refine gate_guard (by rfl) ?_;dsimp only));refine Kd.R_lit k62 _ 62 ?hg (N := 36) ?hd (xs := ([] : List (S62))) (inner := []) (ok := fun _ => True) (okp := fun _ => True) ?hr ?hp (fun _ hk => hk) trivial (Below.refl _ _) (Nat.le_refl _) (by simp) ?_;(case hd => rfl);(case hg => rfl);(case hr => first|(go_simp;done)|(go_simp;rfl));(case hp => exact (Reps.none _ _));intro v554 w31 ho32 hb hg_ hnew_;clear hg_ hnew_;(first|rw [← Ny553.out] at ho32|(simp only [Int.reduceToNat] at ho32;rw [← Ny553.out] at ho32));have n0_ := Aside0.mk (Kd.R_below (by (with_reducible repeat (first|apply Kd.R_alloc|apply Kd.R_drewN|apply Kd.R_drew));exact HO_4.out) hb);have n1_ := Aside0.mk (Kd.R_elder' (by (with_reducible repeat (first|apply Kd.R_alloc|apply Kd.R_drewN|apply Kd.R_drew));exact HO_5.out) (Kd.R_base ho32) hb);have n2_ := Aside0.mk (Kd.R_below (by (with_reducible repeat (first|apply Kd.R_alloc|apply Kd.R_drewN|apply Kd.R_drew));exact HO_542000.out) hb);have n3_ := Aside0.mk (Kd.R_lower (Kd.R_new' ho32 (Kd.R_lt (by (with_reducible repeat (first|apply Kd.R_alloc|apply Kd.R_drewN|apply Kd.R_drew));exact HO_5.out))) (below_size (by repeat (first|(with_reducible first|exact HB.out|apply below_alloc|apply pw_below_drewN|apply below_drew1|refine below_set ?_ GE541.out)|exact HB.out))));have n4_ := Aside0.mk (blk_below (g := gb541) (o := .cells #[.slice Ao8 t535.length co8] 31 (0,0)) (by (with_reducible repeat (first|refine blk_drewN ?_ _|refine blk_drew ?_|refine blk_alloc ?_ _));exact BK541.out) hb);have n5_ := Aside0.mk (below_step (by repeat (first|(with_reducible first|exact HB.out|apply below_alloc|apply pw_below_drewN|apply below_drew1|refine below_set ?_ GE541.out)|exact HB.out)) hb);clear HO_4;clear HO_5;clear HO_542000;clear BK541;clear HB;have HO_4 := n0_;have HO_5 := n1_;have HO_542000 := n2_;have HO555 := n3_;have BK541 := n4_;have HB := n5_;clear n0_ n1_ n2_ n3_ n4_ n5_;clear hb ho32;have hcz33_0 : w31.cell? ⟨gb541,0,none⟩ = some (.slice Ao8 t535.length co8) := (blk_cell BK541.out 0).trans rfl;have hfz33_0 := blk_frozen BK541.out 0)|((with_reducible refine gate_callee (f := 17) rfl ?_);refine goesL_ (some 39) rfl rfl Try.func17 (by kernel_rfl) rfl #[.agg #[.slice Ao8 t535.length co8],.slice Ao10 t538.length co10] rfl (by (try simp only [List.map_toArray,List.map_cons,List.map_nil]);first|done|rfl|(simp only [List.length_drop,List.length_take];rfl)) ?_;(with_reducible refine (impl_KidsOf.calls kj4 _ _ t535 _ _ t538 t556 _ ?side1 ?side2 ?side3 ?side4 A30.out).mono ?_);(case side1 => repeat (first|exact (Kd.R_reads' HO_542000.out).2.2|(with_reducible refine Kd.C_alloc ?_ _)|(with_reducible refine Kd.C_drewN ?_ _)|(with_reducible refine Kd.C_drew ?_)));(case side2 => exact (Kd.R_reads' HO_542000.out).2.1);(case side3 => repeat (first|exact (Kd.R_reads' HO_4.out).2.2|(with_reducible refine Kd.C_alloc ?_ _)|(with_reducible refine Kd.C_drewN ?_ _)|(with_reducible refine Kd.C_drew ?_)));(case side4 => exact (Kd.R_reads' HO_4.out).2.1);rintro e w34 ⟨v557,rfl,ho0,hb⟩;refine ⟨_,rfl,?_⟩;have n0_ := Aside0.mk (Kd.R_below (by (with_reducible repeat (first|apply Kd.R_alloc|apply Kd.R_drewN|apply Kd.R_drew));exact HO_4.out) hb);have n1_ := Aside0.mk (Kd.R_below (by (with_reducible repeat (first|apply Kd.R_alloc|apply Kd.R_drewN|apply Kd.R_drew));exact HO_5.out) hb);have n2_ := Aside0.mk (Kd.R_below (by (with_reducible repeat (first|apply Kd.R_alloc|apply Kd.R_drewN|apply Kd.R_drew));exact HO_542000.out) hb);have n3_ := Aside0.mk (Kd.R_below (by (with_reducible repeat (first|apply Kd.R_alloc|apply Kd.R_drewN|apply Kd.R_drew));exact HO555.out) hb);have n4_ := Aside0.mk (Kd.S_lower (Kd.S_new' ho0 (Kd.R_lt (by (with_reducible repeat (first|apply Kd.R_alloc|apply Kd.R_drewN|apply Kd.R_drew));exact HO_4.out))) (below_size (by repeat (first|(with_reducible first|exact HB.out|apply below_alloc|apply pw_below_drewN|apply below_drew1|refine below_set ?_ GE541.out)|exact HB.out))));have n5_ := Aside0.mk (blk_below (g := gb541) (o := .cells #[.slice Ao8 t535.length co8] 31 (0,0)) (by (with_reducible repeat (first|refine blk_drewN ?_ _|refine blk_drew ?_|refine blk_alloc ?_ _));exact BK541.out) hb);have n6_ := Aside0.mk (below_step (by repeat (first|(with_reducible first|exact HB.out|apply below_alloc|apply pw_below_drewN|apply below_drew1|refine below_set ?_ GE541.out)|exact HB.out)) hb);clear HO_4;clear HO_5;clear HO_542000;clear HO555;clear BK541;clear HB;have HO_4 := n0_;have HO_5 := n1_;have HO_542000 := n2_;have HO555 := n3_;have HO558 := n4_;have BK541 := n5_;have HB := n6_;clear n0_ n1_ n2_ n3_ n4_ n5_ n6_;(try clear hb);(try clear hb2);(try clear hk);(try clear hi);(try clear ho0)))
     go_loopg [6,8] kj4 (fun kq v6 v8 w' => ∃ (x6_2 : List (S62)) (x8_2 : Int),v8 = .int .i64 x8_2 ∧ Aside0 (laws_FnLeavesOf.l0 kq t542 x6_2 t556 x8_2 t535 = some r) ∧ Aside0 (kq ≤ kj4) ∧ Aside0 (Kd.R k62 62 w' w.heap.size (fun k_ => some k_ ≠ (v6 : Value).ownBlock) v543 t542) ∧ Aside0 (Kd.R k62 62 w' w.heap.size (fun k_ => some k_ ≠ (v543 : Value).ownBlock) v6 x6_2) ∧ Aside0 (Kd.S (Kd.slice 46 k46) 33 w' w.heap.size (fun _ => True) v557 t556) ∧ Aside0 (Kd.R k70 70 w' w.heap.size (fun _ => True) (.slice Ao8 t535.length co8) t535) ∧ Aside0 (w'.heap[gb541]? = some (.cells #[(.slice Ao8 t535.length co8)] 31 (0,0))) ∧ Aside0 (Below w.heap.size w w'))
     case atStart => exact ⟨(y553),(0),(by first|rfl|(simp;done)|(simp [*];done)),H',⟨Nat.le_refl _⟩,⟨by (with_reducible repeat (first|apply Kd.R_alloc|apply Kd.R_drewN|apply Kd.R_drew));exact Kd.R_mono HO_5.out (fun _ hk => hk.2)⟩,⟨by (with_reducible repeat (first|apply Kd.R_alloc|apply Kd.R_drewN|apply Kd.R_drew));exact Kd.R_mono HO555.out (fun _ hk => hk.2)⟩,⟨by (with_reducible repeat (first|apply Kd.S_alloc|apply Kd.S_drewN|apply Kd.S_drew));exact Kd.S_mono HO558.out (fun _ hk => trivial)⟩,⟨by (with_reducible repeat (first|apply Kd.R_alloc|apply Kd.R_drewN|apply Kd.R_drew));exact HO_542000.out⟩,⟨by (with_reducible repeat (first|refine blk_drewN ?_ _|refine blk_drew ?_|refine blk_alloc ?_ _));exact BK541.out⟩,⟨by repeat (first|(with_reducible first|exact HB.out|apply below_alloc|apply pw_below_drewN|apply below_drew1|refine below_set ?_ GE541.out)|exact HB.out)⟩⟩
     case round =>
      clear H'
      try clear c1
      try clear c2
      try clear c2b0
      try clear c2b1
      try clear p2
      try clear c7
      try clear c14
      try clear c17
      try clear c18
      try clear c22
      try clear c23
      try clear c24
      try clear hcz15_0
      try clear hcz19_0
      try clear hcz26_0
      try clear hcz33_0
      try clear hcz9_0
      try clear hfz15_0
      try clear hfz19_0
      try clear hfz26_0
      try clear hfz33_0
      try clear hfz9_0
      try clear p2
      obtain ⟨x6_2,x8_2,rfl,HA,HK2,HO_5,HO_6,HO_7,HO_542000,BK541,HB⟩ := hrel
      cases gk with
      | zero => exact absurd HA.out (by simp [laws_FnLeavesOf.l0])
      | succ k2 =>
       have H := HA.out
       clear HA
       simp only [laws_FnLeavesOf.l0] at H
       by_cases c35 : x8_2 < (t556.length : Int)
       ·rw [if_pos c35] at H
        have c35b0 : decide (x8_2 < (t556.length : Int)) = true := decide_eq_true c35
        clear c35
        by_cases c36 : 0 ≤ x8_2
        ·rw [if_pos c36] at H
         have c36b0 : decide (0 ≤ x8_2) = true := decide_eq_true c36
         clear c36
         replace H := Option.bind_eq_some_iff.mp H
         obtain ⟨t560,A370,H⟩ := H
         replace H : (if x6_2.length + t560.length < 8796093022208 then (laws_FnLeavesOf.l0 k2 t542 (x6_2 ++ t560) t556 (wrap64 (x8_2 + 1)) t535) else (none)) = some r := H
         have A37 := Aside0.mk A370
         clear A370
         by_cases c38 : x6_2.length + t560.length < 8796093022208
         ·rw [if_pos c38] at H
          have LMc38 := Aside0.mk c38
          clear c38
          obtain ⟨y563,hy563⟩ : ∃ y_ : List (S62),y_ = (x6_2 ++ t560) := ⟨_,rfl⟩
          replace H : (laws_FnLeavesOf.l0 k2 t542 y563 t556 (wrap64 (x8_2 + 1)) t535) = some r := by first|(rw [hy563];with_reducible exact H)|(have H2_ := (Option.bind_some _ _).symm.trans H;rw [hy563];with_reducible exact H2_)|(have H2_ := (Option.bind_some _ _).symm.trans H;with_reducible exact H2_)|with_reducible exact H|(rw [hy563];exact H)|exact H
          have Ny563 := Aside0.mk hy563
          clear hy563
          have H' := Aside0.mk H
          clear H
          obtain ⟨Ao39,co39,eo39⟩ := Kd.S_slice HO_7.out
          subst eo39
          try go_wp2
          have n0_ := Aside0.mk (Kd.R_drew HO_5.out)
          have n1_ := Aside0.mk (Kd.R_drew HO_6.out)
          have n2_ := Aside0.mk (Kd.S_drew HO_7.out)
          have n3_ := Aside0.mk (Kd.R_drew HO_542000.out)
          have n4_ := Aside0.mk (blk_drew BK541.out)
          have n5_ := Aside0.mk (below_drew1 HB.out)
          clear HO_5
          clear HO_6
          clear HO_7
          clear HO_542000
          clear BK541
          clear HB
          have HO_5 := n0_
          have HO_6 := n1_
          have HO_7 := n2_
          have HO_542000 := n3_
          have BK541 := n4_
          have HB := n5_
          clear n0_ n1_ n2_ n3_ n4_ n5_
          have p559 : 0 ≤ (x8_2 : Int) := of_decide_eq_true (by first|(with_reducible assumption)|assumption)
          have q559 : x8_2 < (t556.length : Int) := of_decide_eq_true (by first|(with_reducible assumption)|assumption)
          obtain ⟨ad559,A559_0,c559_0,e559,hx559_0,hl559_0,hi559_0⟩ := at_L8 (Kd.S_reads' HO_7.out).2.2 x8_2 p559 q559
          cases e559
          obtain ⟨ce559,hce559,hMe559,hcc559⟩ := Kd.S_get HO_7.out [] x8_2 p559 (by first|exact q559|exact of_decide_eq_true (by first|(with_reducible assumption)|assumption)|(have e_ := (Kd.S_reads' HO_7.out).1;omega))
          obtain ⟨ve559_0,rfl,ge559_0⟩ := hMe559
          have hv559_0 := hcc559 0 _ rfl
          rw [Nat.add_zero,show ((Kd.slice 46 k46)).sz = 1 from rfl,Nat.mul_one] at hv559_0
          replace hv559_0 := Option.some.inj (hv559_0.symm.trans hx559_0)
          rw [hv559_0] at ge559_0
          have HL559_0 := Aside0.mk (show Kd.R k46 46 _ _ _ _ (rd_L8 t556 x8_2) from ge559_0)
          clear hv559_0 ge559_0
          clear hcc559 hce559
          have HR559_0 := Aside0.mk hi559_0
          have HC559_0 := Aside0.mk hl559_0
          clear hi559_0 hl559_0
          replace p559 := eq_true p559
          replace q559 := eq_true q559
          refine start_ (n := 9) (S := fun w' => w'.cell? ⟨gb541,0,none⟩ = some (.slice Ao8 t535.length co8) ∧ w'.cell? (ad559.add (x8_2).toNat) = some (.slice A559_0 (rd_L8 t556 x8_2).length c559_0)) (ds := [7]) #[false,false,false,false,false,false,false,false,false] (by kernel_rfl) rfl rfl ⟨(blk_cell BK541.out 0).trans rfl,hx559_0⟩ (fun hHeld => ?_);refine with_tabW laws_FnLeavesOf.tab12 laws_FnLeavesOf.bits12 (fun HT_ HW_ => ?_)
          generalize wr.drew = w40 at HO_5 HO_6 HO_7 HO_542000 BK541 HB HL559_0 HR559_0 hx559_0 hHeld ⊢
          refine pure_ (i := 0) (N := some 46) (v := ?_) (a' := ?_) #[true,false,false,false,false,false,false,false,false] rfl rfl (any_of HT_.out (by kernel_rfl)) (fun _ _ _ h => h) (Or.inl ⟨by rfl,?_⟩) ?_ ?_
          rotate_left
          ·intro w'
           go_simp
           with_reducible rfl
          rotate_left
          ·simp only [Act.put,List.setIfInBounds_toArray,List.set_cons_zero,List.set_cons_succ,i64_w,i32_w]
           rfl
          refine pure_ (i := 2) (N := some 48) (v := ?_) (a' := ?_) #[true,false,true,false,false,false,false,false,false] rfl rfl (any_of HT_.out (by kernel_rfl)) (fun _ _ _ h => h) (Or.inl ⟨by rfl,?_⟩) ?_ ?_
          rotate_left
          ·intro w'
           go_simp
           with_reducible rfl
          rotate_left
          ·simp only [Act.put,List.setIfInBounds_toArray,List.set_cons_zero,List.set_cons_succ,i64_w,i32_w]
           rfl
          refine pure_ (i := 3) (N := some 49) (v := ?_) (a' := ?_) #[true,false,true,true,false,false,false,false,false] rfl rfl (any_of HT_.out (by kernel_rfl)) (fun _ _ _ h => h) (Or.inl ⟨by rfl,?_⟩) ?_ ?_
          rotate_left
          ·intro w'
           go_simp
           with_reducible rfl
          rotate_left
          ·simp only [Act.put,List.setIfInBounds_toArray,List.set_cons_zero,List.set_cons_succ,i64_w,i32_w]
           rfl
          refine pure_ (i := 4) (N := some 50) (v := ?_) (a' := ?_) #[true,false,true,true,true,false,false,false,false] rfl rfl (any_of HT_.out (by kernel_rfl)) (fun _ _ _ h => h) (Or.inl ⟨by rfl,?_⟩) ?_ ?_
          rotate_left
          ·intro w'
           go_simp
           with_reducible rfl
          rotate_left
          ·simp only [Act.put,List.setIfInBounds_toArray,List.set_cons_zero,List.set_cons_succ,i64_w,i32_w]
           rfl
          refine take_ (i := 1) (N := some 47) (v := ?_) (a' := ?_) #[true,true,true,true,true,false,false,false,false] rfl rfl (take_ofW HT_.out HW_.out (by kernel_rfl)) (fun _ _ _ h => h) (Or.inl ⟨by rfl,?_⟩) hHeld ?_ ?_
          rotate_left
          ·rintro w' ⟨s0,s1⟩
           go_simp
           with_reducible rfl
          rotate_left
          ·simp only [Act.put,List.setIfInBounds_toArray,List.set_cons_zero,List.set_cons_succ,i64_w,i32_w]
           rfl
          refine take_ (i := 5) (N := some 51) (v := ?_) (a' := ?_) #[true,true,true,true,true,true,false,false,false] rfl rfl (take_ofW HT_.out HW_.out (by kernel_rfl)) (fun _ _ _ h => h) (Or.inl ⟨by rfl,?_⟩) hHeld ?_ ?_
          rotate_left
          ·rintro w' ⟨s0,s1⟩
           go_simp
           with_reducible rfl
          rotate_left
          ·simp only [Act.put,List.setIfInBounds_toArray,List.set_cons_zero,List.set_cons_succ,i64_w,i32_w]
           rfl
          refine one_ (i := 6) (N := some 52) #[true,true,true,true,true,true,true,false,false] rfl rfl (one_of HT_.out (by kernel_rfl)) (by decide) (fun K hK => ?_)
          refine goes_ Try.func18 (by kernel_rfl) rfl #[.agg #[.slice Ao8 t535.length co8],.slice A559_0 (rd_L8 t556 x8_2).length c559_0] (by rfl) rfl rfl (by (try simp only [List.map_toArray,List.map_cons,List.map_nil]);first|done|rfl|(simp only [List.length_drop,List.length_take];rfl)) ?_
          with_reducible refine (impl_LeavesOf.calls k2 _ _ t535 _ _ (rd_L8 t556 x8_2) t560 _ ?side1 ?side2 ?side3 ?side4 A37.out).mono ?_
          (case side1 => repeat (first|exact (Kd.R_reads' HO_542000.out).2.2|(with_reducible refine Kd.C_alloc ?_ _)|(with_reducible refine Kd.C_drewN ?_ _)|(with_reducible refine Kd.C_drew ?_)))
          (case side2 => exact (Kd.R_reads' HO_542000.out).2.1)
          (case side3 => repeat (first|exact (by repeat (first|(with_reducible exact HR559_0.out)|(with_reducible refine Kd.C_alloc ?_ _)|(with_reducible refine Kd.C_drewN ?_ _)|(with_reducible refine Kd.C_drew ?_)|exact HR559_0.out))|(with_reducible refine Kd.C_alloc ?_ _)|(with_reducible refine Kd.C_drewN ?_ _)|(with_reducible refine Kd.C_drew ?_)))
          (case side4 => exact HC559_0.out)
          rintro e w41 ⟨v561,rfl,ho0,hb⟩
          have HS1_ := (hb.cell (World.block_lt_of_cell? _ _ (hHeld.2))).trans (hHeld.2)
          refine ⟨_,rfl,?_⟩
          have n0_ := Aside0.mk (Kd.R_elder' (by (with_reducible repeat (first|apply Kd.R_alloc|apply Kd.R_drewN|apply Kd.R_drew));exact HO_5.out) (Kd.R_base ho0) hb)
          have n1_ := Aside0.mk (Kd.R_elder' (by (with_reducible repeat (first|apply Kd.R_alloc|apply Kd.R_drewN|apply Kd.R_drew));exact HO_6.out) (Kd.R_base ho0) hb)
          have n2_ := Aside0.mk (Kd.S_below (by (with_reducible repeat (first|apply Kd.S_alloc|apply Kd.S_drewN|apply Kd.S_drew));exact HO_7.out) hb)
          have n3_ := Aside0.mk (Kd.R_below (by (with_reducible repeat (first|apply Kd.R_alloc|apply Kd.R_drewN|apply Kd.R_drew));exact HO_542000.out) hb)
          have n4_ := Aside0.mk (Kd.R_below (by (with_reducible repeat (first|apply Kd.R_alloc|apply Kd.R_drewN|apply Kd.R_drew));exact HL559_0.out) hb)
          have n5_ := Aside0.mk (Kd.R_lower (Kd.R_new' (Kd.R_new' ho0 (Kd.R_lt (by (with_reducible repeat (first|apply Kd.R_alloc|apply Kd.R_drewN|apply Kd.R_drew));exact HO_5.out))) (Kd.R_lt (by (with_reducible repeat (first|apply Kd.R_alloc|apply Kd.R_drewN|apply Kd.R_drew));exact HO_6.out))) (below_size (by repeat (first|(with_reducible first|exact HB.out|apply below_alloc|apply pw_below_drewN|apply below_drew1|refine below_set ?_ GE541.out)|exact HB.out))))
          have n6_ := Aside0.mk (blk_below (g := gb541) (o := .cells #[.slice Ao8 t535.length co8] 31 (0,0)) (by (with_reducible repeat (first|refine blk_drewN ?_ _|refine blk_drew ?_|refine blk_alloc ?_ _));exact BK541.out) hb)
          have n7_ := Aside0.mk (Kd.C_below (by repeat (first|(with_reducible exact HR559_0.out)|(with_reducible refine Kd.C_alloc ?_ _)|(with_reducible refine Kd.C_drewN ?_ _)|(with_reducible refine Kd.C_drew ?_)|exact HR559_0.out)) hb)
          have n8_ := Aside0.mk (below_step (by repeat (first|(with_reducible first|exact HB.out|apply below_alloc|apply pw_below_drewN|apply below_drew1|refine below_set ?_ GE541.out)|exact HB.out)) hb)
          clear HO_5
          clear HO_6
          clear HO_7
          clear HO_542000
          clear HL559_0
          clear BK541
          clear HR559_0
          clear HB
          have HO_5 := n0_
          have HO_6 := n1_
          have HO_7 := n2_
          have HO_542000 := n3_
          have HL559_0 := n4_
          have HO562 := n5_
          have BK541 := n6_
          have HR559_0 := n7_
          have HB := n8_
          clear n0_ n1_ n2_ n3_ n4_ n5_ n6_ n7_ n8_
          (try clear hb)
          (try clear hb2)
          (try clear hk)
          (try clear hi)
          (try clear ho0)
          obtain ⟨Ao43,co43,eo43⟩ := Kd.R_slice HO562.out
          (first|subst eo43|(injection eo43 with f1_ f2_ f3_;have f4_ := f1_.symm;have f5_ := f3_.symm;clear f1_ f2_ f3_;subst f4_;subst f5_))
          refine hK.out _ _ ⟨(blk_cell BK541.out 0).trans rfl,HS1_⟩ (fun hHeld => ?_)
          clear hK K
          refine norm_ (a' := ?_) ?_ ?_
          rotate_left
          ·show Act.put _ (some 52) _ = _
           simp only [Act.put,List.setIfInBounds_toArray,List.set_cons_zero,List.set_cons_succ,i64_w,i32_w]
           rfl
          refine last_ (i := 7) (N := some 53) #[true,true,true,true,true,true,true,true,false] rfl rfl (one_of HT_.out (by kernel_rfl)) (by decide) (fun K hK => ?_)
          refine Kd.R_append_rows_step k62 (w0 := w) w.heap.size (by rfl) (.tmp 46) (.tmp 52) 43 62 (.agg #[(.int .i64 0),(.int .i64 0)]) 16 rfl Try.underlying43 info62 rfl (by decide) (by omega) u6 x6_2 t560 _ _ _ (fun k_ => some k_ ≠ (v543 : Value).ownBlock ∧ some k_ ≠ (.slice Ao43 t560.length co43 : Value).ownBlock) (fun _ => False) rfl rfl ?aO ?aR (fun _ _ h => h) (fun _ h => h.elim) ?aF ?aB ?aS ?aL ?_
          (case aR => repeat (first|exact (Kd.R_reads' HO562.out).2.2|(with_reducible refine Kd.C_alloc ?_ _)|(with_reducible refine Kd.C_drewN ?_ _)|(with_reducible refine Kd.C_drew ?_)))
          (case aB => exact (by repeat (first|(with_reducible first|exact HB.out|apply below_alloc|apply pw_below_drewN|apply below_drew1|refine below_set ?_ GE541.out)|exact HB.out)))
          (case aF => exact (fun k_ hk => ⟨Kd.fresh' (Kd.R_lt (by (with_reducible repeat (first|apply Kd.R_alloc|apply Kd.R_drewN|apply Kd.R_drew));exact HO_5.out)) k_ hk,Kd.fresh' (Kd.R_lt (by (with_reducible repeat (first|apply Kd.R_alloc|apply Kd.R_drewN|apply Kd.R_drew));exact HO562.out)) k_ hk⟩))
          (case aO => exact (by (with_reducible repeat (first|apply Kd.R_alloc|apply Kd.R_drewN|apply Kd.R_drew));exact HO_6.out))
          (case aS => exact (below_size (by repeat (first|(with_reducible first|exact HB.out|apply below_alloc|apply pw_below_drewN|apply below_drew1|refine below_set ?_ GE541.out)|exact HB.out))))
          (case aL => have := LMc38.out;omega)
          intro v564 w42 ho hb hg hat
          rw [← Ny563.out] at ho
          have n0_ := Aside0.mk (Kd.R_after (ok := (fun k_ => some k_ ≠ (.slice Ao43 t560.length co43 : Value).ownBlock)) (by (with_reducible repeat (first|apply Kd.R_alloc|apply Kd.R_drewN|apply Kd.R_drew));exact Kd.R_mono HO_5.out (fun _ hk => ⟨hk.2,hk.1⟩)) hg hat)
          have n1_ := Aside0.mk (Kd.S_over' (by (with_reducible repeat (first|apply Kd.S_alloc|apply Kd.S_drewN|apply Kd.S_drew));exact HO_7.out) (Kd.R_typed (by (with_reducible repeat (first|apply Kd.R_alloc|apply Kd.R_drewN|apply Kd.R_drew));exact HO_6.out)) (by decide) hg)
          have n2_ := Aside0.mk (Kd.R_over' (by (with_reducible repeat (first|apply Kd.R_alloc|apply Kd.R_drewN|apply Kd.R_drew));exact HO_542000.out) (Kd.R_typed (by (with_reducible repeat (first|apply Kd.R_alloc|apply Kd.R_drewN|apply Kd.R_drew));exact HO_6.out)) (by decide) hg)
          have n3_ := Aside0.mk (blk_grown (g := gb541) (o := .cells #[.slice Ao8 t535.length co8] 31 (0,0)) (by (with_reducible repeat (first|refine blk_drewN ?_ _|refine blk_drew ?_|refine blk_alloc ?_ _));exact BK541.out) hg (Kd.R_ne HO_6.out BK541.out (by decide)))
          have n4_ := Aside0.mk (Kd.R_over' (by (with_reducible repeat (first|apply Kd.R_alloc|apply Kd.R_drewN|apply Kd.R_drew));exact HL559_0.out) (Kd.R_typed (by (with_reducible repeat (first|apply Kd.R_alloc|apply Kd.R_drewN|apply Kd.R_drew));exact HO_6.out)) (by decide) hg)
          have n5_ := Aside0.mk (Kd.R_after (ok := (fun k_ => some k_ ≠ (v543 : Value).ownBlock)) (by (with_reducible repeat (first|apply Kd.R_alloc|apply Kd.R_drewN|apply Kd.R_drew));exact Kd.R_mono HO562.out (fun _ hk => ⟨hk.1.2,hk.2⟩)) hg hat)
          have n6_ := Aside0.mk (hb)
          have n7_ := Aside0.mk (ho)
          clear HO_5
          clear HO_7
          clear HO_542000
          clear BK541
          clear HL559_0
          clear HO562
          clear HB
          clear HO_6
          have HO_5 := n0_
          have HO_7 := n1_
          have HO_542000 := n2_
          have BK541 := n3_
          have HL559_0 := n4_
          have HO562 := n5_
          have HB := n6_
          have HO565 := n7_
          clear n0_ n1_ n2_ n3_ n4_ n5_ n6_ n7_
          clear ho hb hg hat
          refine hK.out _ _ ?_
          clear hK K
          refine norm_ (a' := ?_) ?_ ?_
          rotate_left
          ·show Act.put _ (some 53) _ = _
           simp only [Act.put,List.setIfInBounds_toArray,List.set_cons_zero,List.set_cons_succ,i64_w,i32_w]
           rfl
          refine pure_ (i := 8) (N := some 6) (v := ?_) (a' := ?_) #[true,true,true,true,true,true,true,true,true] rfl rfl (any_of HT_.out (by kernel_rfl)) (fun _ _ _ h => h) (Or.inl ⟨by rfl,?_⟩) ?_ ?_
          rotate_left
          ·intro w'
           go_simp
           with_reducible rfl
          rotate_left
          ·simp only [Act.put,List.setIfInBounds_toArray,List.set_cons_zero,List.set_cons_succ,i64_w,i32_w]
           rfl
          refine done_ (done_of HT_.out (by kernel_rfl)) ?_
          try go_wp2
          go_roundg k2
          case measure => have := HJ4.out;have := HK2.out;omega
          case rel => exact ⟨(y563),(wrap64 (x8_2 + 1)),(by first|rfl|(simp;done)|(simp [*];done)),H',⟨by have := HJ4.out;have := HK2.out;omega⟩,⟨by (with_reducible repeat (first|apply Kd.R_alloc|apply Kd.R_drewN|apply Kd.R_drew));exact Kd.R_mono HO_5.out (fun _ hk => hk.2)⟩,⟨by (with_reducible repeat (first|apply Kd.R_alloc|apply Kd.R_drewN|apply Kd.R_drew));exact Kd.R_mono HO565.out (fun _ hk => hk.1)⟩,⟨by (with_reducible repeat (first|apply Kd.S_alloc|apply Kd.S_drewN|apply Kd.S_drew));exact HO_7.out⟩,⟨by (with_reducible repeat (first|apply Kd.R_alloc|apply Kd.R_drewN|apply Kd.R_drew));exact HO_542000.out⟩,⟨by (with_reducible repeat (first|refine blk_drewN ?_ _|refine blk_drew ?_|refine blk_alloc ?_ _));exact BK541.out⟩,⟨by repeat (first|(with_reducible first|exact HB.out|apply below_alloc|apply pw_below_drewN|apply below_drew1|refine below_set ?_ GE541.out)|exact HB.out)⟩⟩
         ·rw [if_neg c38] at H
          exact absurd H (by simp)
        ·rw [if_neg c36] at H
         exact absurd H (by simp)
       ·rw [if_neg c35] at H
        have c35b0 : decide (x8_2 < (t556.length : Int)) = false := decide_eq_false c35
        clear c35
        by_cases c44 : (t556.length : Int) = 0
        ·rw [if_pos c44] at H
         have c44b0 : ((t556.length : Int) == 0) = true := beq_iff_eq.mpr c44
         have c44b1 : ((t556.length : Int) != 0) = false := bne_eq_false_iff_eq.mpr c44
         clear c44
         by_cases c45 : (t542.length : Int) = 1
         ·rw [if_pos c45] at H
          have c45b0 : ((t542.length : Int) == 1) = true := beq_iff_eq.mpr c45
          have c45b1 : ((t542.length : Int) != 1) = false := bne_eq_false_iff_eq.mpr c45
          clear c45
          obtain rfl := Option.some.inj H
          obtain ⟨Ao46,co46,eo46⟩ := Kd.S_slice HO_7.out
          subst eo46
          obtain ⟨Ao47,co47,eo47⟩ := Kd.R_slice HO_5.out
          subst eo47
          go_wp2
          go_ret
          exact ⟨by first|rfl|(simp [errW_none,errW_some] <;> rfl)|(simp [*,errW_none,errW_some] <;> rfl),by repeat (first|(with_reducible first|exact HB.out|apply below_alloc|apply pw_below_drewN|apply below_drew1|refine below_set ?_ GE541.out)|exact HB.out)⟩
         ·rw [if_neg c45] at H
          have c45b0 : ((t542.length : Int) == 1) = false := beq_eq_false_iff_ne.mpr c45
          have c45b1 : ((t542.length : Int) != 1) = true := bne_iff_ne.mpr c45
          replace H := Option.bind_eq_some_iff.mp H
          obtain ⟨t566,A480,H⟩ := H
          replace H : (some t566) = some r := H
          have A48 := Aside0.mk A480
          clear A480
          obtain rfl := Option.some.inj H
          obtain ⟨Ao49,co49,eo49⟩ := Kd.S_slice HO_7.out
          subst eo49
          obtain ⟨Ao50,co50,eo50⟩ := Kd.R_slice HO_5.out
          subst eo50
          obtain ⟨Ao51,co51,eo51⟩ := Kd.R_slice HO_6.out
          subst eo51
          go_wp2_with (first|(go_at_call 23;(with_reducible refine (laws_equalLeaves.calls k2 _ _ x6_2 _ _ t542 t566 _ ?side1 ?side2 ?side3 ?side4 A48.out).mono ?_);(case side1 => repeat (first|exact (Kd.R_reads' HO_6.out).2.2|(with_reducible refine Kd.C_alloc ?_ _)|(with_reducible refine Kd.C_drewN ?_ _)|(with_reducible refine Kd.C_drew ?_)));(case side2 => exact (Kd.R_reads' HO_6.out).2.1);(case side3 => repeat (first|exact (Kd.R_reads' HO_5.out).2.2|(with_reducible refine Kd.C_alloc ?_ _)|(with_reducible refine Kd.C_drewN ?_ _)|(with_reducible refine Kd.C_drew ?_)));(case side4 => exact (Kd.R_reads' HO_5.out).2.1);rintro e w' ⟨rfl,⟨nd,rfl⟩⟩))
          go_ret
          exact ⟨by first|rfl|(simp [errW_none,errW_some] <;> rfl)|(simp [*,errW_none,errW_some] <;> rfl),by repeat (first|(with_reducible first|exact HB.out|apply below_alloc|apply pw_below_drewN|apply below_drew1|refine below_set ?_ GE541.out)|exact HB.out)⟩
        ·rw [if_neg c44] at H
         have c44b0 : ((t556.length : Int) == 0) = false := beq_eq_false_iff_ne.mpr c44
         have c44b1 : ((t556.length : Int) != 0) = true := bne_iff_ne.mpr c44
         have c44b2 : ¬ (t556 = []) := fun h_ => c44 (by rw [h_];rfl)
         replace H := Option.bind_eq_some_iff.mp H
         obtain ⟨t567,A520,H⟩ := H
         replace H : (some t567) = some r := H
         have A52 := Aside0.mk A520
         clear A520
         obtain rfl := Option.some.inj H
         obtain ⟨Ao53,co53,eo53⟩ := Kd.S_slice HO_7.out
         subst eo53
         obtain ⟨Ao54,co54,eo54⟩ := Kd.R_slice HO_6.out
         subst eo54
         obtain ⟨Ao55,co55,eo55⟩ := Kd.R_slice HO_5.out
         subst eo55
         go_wp2_with (first|(go_at_call 23;(with_reducible refine (laws_equalLeaves.calls k2 _ _ x6_2 _ _ t542 t567 _ ?side1 ?side2 ?side3 ?side4 A52.out).mono ?_);(case side1 => repeat (first|exact (Kd.R_reads' HO_6.out).2.2|(with_reducible refine Kd.C_alloc ?_ _)|(with_reducible refine Kd.C_drewN ?_ _)|(with_reducible refine Kd.C_drew ?_)));(case side2 => exact (Kd.R_reads' HO_6.out).2.1);(case side3 => repeat (first|exact (Kd.R_reads' HO_5.out).2.2|(with_reducible refine Kd.C_alloc ?_ _)|(with_reducible refine Kd.C_drewN ?_ _)|(with_reducible refine Kd.C_drew ?_)));(case side4 => exact (Kd.R_reads' HO_5.out).2.1);rintro e w' ⟨rfl,⟨nd,rfl⟩⟩))
         go_ret
         exact ⟨by first|rfl|(simp [errW_none,errW_some] <;> rfl)|(simp [*,errW_none,errW_some] <;> rfl),by repeat (first|(with_reducible first|exact HB.out|apply below_alloc|apply pw_below_drewN|apply below_drew1|refine below_set ?_ GE541.out)|exact HB.out)⟩
def laws_FnLeavesOf.Pure : Prop := ∀ (l0 : List Int),l0.length ≤ maxLen → l0.length * 1 ≤ 140737488351232 → (∀ x ∈ l0,(Lit.int .u8 x).wf = true) → ∃ k,laws_FnLeavesOf.f k l0 = some true
theorem laws_FnLeavesOf.walk (P : laws_FnLeavesOf.Pure) (a0 : Option Addr) (len0 cap0 : Nat) (z0 : List Int) (w : World) (w0 : (a0 = none ∧ len0 = 0 ∧ cap0 = 0 ∧ z0 = []) ∨ ∃ x,a0 = some x ∧ len0 ≤ cap0 ∧ cap0 ≤ maxLen ∧ z0.length = cap0 ∧ (∀ i,i < z0.length → w.cell? (x.add i) = some (.int .u8 (z0.getD i 0))) ∧ ∀ n ∈ z0,(Lit.int .u8 n).wf = true) (y0 : len0 * 1 ≤ 140737488351232) :
  Calls Try.prog 7 #[.slice a0 len0 cap0] w fun e w' => e = .returned (.bool true) ∧ Below w.heap.size w w' := by
 obtain ⟨l0,rfl,hr0,hm0,hw0,hc0⟩ := ReadsInt.ofRowC w0
 obtain ⟨k,h⟩ := P l0 hm0 y0 hw0
 refine (laws_FnLeavesOf.calls k _ _ l0 true w (Kd.C_of_reads (d := (0 : Int)) (h1 := fun _ => rfl) hr0) hc0 h).mono ?_
 rintro e w' ⟨rfl,hd⟩
 exact ⟨rfl,hd⟩
end Go.Proofs.Ytcbbflemaefeeaa.PT
