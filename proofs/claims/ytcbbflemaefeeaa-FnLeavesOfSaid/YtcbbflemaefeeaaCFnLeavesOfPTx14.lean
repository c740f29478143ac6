/- Words and walks that the law's proof uses: each printed function's contract. Conditions: none beyond the statement's own. -/
import Derived.Test.YtcbbflemaefeeaaCFnLeavesOfPTx0
import Derived.Test.YtcbbflemaefeeaaCFnLeavesOfPTx8
import Derived.Test.YtcbbflemaefeeaaCFnLeavesOfPTx13
namespace Go.Proofs.Ytcbbflemaefeeaa.PT
open Go.RowKit Go.Proofs.YtcbbflemaefeeaaW.PrintWords Go.Proofs.YtcbbflemaefeeaaW.PrintLast Go.Proofs.YtcbbflemaefeeaaW.PrintMore
attribute [local go_sem] max2_int min2_int max_two min_two max_three min_three max_four min_four   -- for this text's walks alone
set_option linter.unusedVariables false
set_option linter.unusedSimpArgs false
def impl_kids.l0 : Nat → List (S46) → List (List (S46)) → Int → Option ((List (List (S46))))
 | 0, _, _, _ => none
 | k + 1, x0, x3, x4 => if x4 < (x0.length : Int) then ((impl_end.f k x0 x4).bind fun t396 => (if 0 ≤ x4 then (if x4 ≤ t396 then (if t396 ≤ (x0.length : Int) then ((impl_deeper.f k ((x0.take (t396 : Int).toNat).drop (x4 : Int).toNat) (-1)).bind fun t401 => (if x3.length < 5864062014805 then ((impl_end.f k x0 x4).bind fun t407 => (impl_kids.l0 k x0 (x3 ++ [t401]) t407)) else (none))) else (none)) else (none)) else (none))) else (some x3)
def impl_kids.f (k : Nat) (l0 : List (S46)) : Option ((List (List (S46)))) := impl_kids.l0 k l0 (([] : List (List (S46)))) 1
set_option maxHeartbeats 8000000 in
set_option maxRecDepth 100000 in
theorem impl_kids.calls (k : Nat) (A0 : Option Addr) (c0 : Nat) (l0 : List (S46)) (r : List (List (S46))) (w : World) (hr0 : Kd.C k46 w A0 l0.length l0) (hc0 : l0.length ≤ c0) (h : impl_kids.f k l0 = some r) :
  Calls Try.prog 35 #[.slice A0 l0.length c0] w fun e w' => ∃ v0_ : Value,e = .returned (v0_) ∧ Kd.S (Kd.slice 46 k46) 33 w' w.heap.size (fun _ => True) v0_ r ∧ Below w.heap.size w w' := by
 have HR0 := Aside0.mk hr0
 have HC0 := Aside0.mk hc0
 clear hr0 hc0
 have HB := Aside0.mk (Below.refl w.heap.size w)
 have H : (impl_kids.l0 k l0 (([] : List (List (S46)))) 1) = some r := h
 clear h
 obtain ⟨y393,hy393⟩ : ∃ y_ : List (List (S46)),y_ = (([] : List (List (S46)))) := ⟨_,rfl⟩
 replace H : (impl_kids.l0 k l0 y393 1) = some r := by first|(rw [hy393];with_reducible exact H)|(have H2_ := (Option.bind_some _ _).symm.trans H;rw [hy393];with_reducible exact H2_)|(have H2_ := (Option.bind_some _ _).symm.trans H;with_reducible exact H2_)|with_reducible exact H|(rw [hy393];exact H)|exact H
 have Ny393 := Aside0.mk hy393
 clear hy393
 have H' := Aside0.mk H
 clear H
 go_enter Try.func35,Try.ntmps35
 go_wp2_with (first|((with_reducible refine gate_dst (N := 5) rfl ?_);refine Kd.S_lit (Kd.slice 46 k46) _ 33 ?hg (N := 5) ?hd (xs := ([] : List (List (S46)))) (inner := []) (ok := fun _ => True) (okp := fun _ => True) ?hr ?hp (fun _ hk => hk) trivial (Below.refl _ _) (Nat.le_refl _) (by simp) ?_;(case hd => rfl);(case hg => rfl);(case hr => first|(go_simp;done)|(go_simp;rfl));(case hp => exact (Reps.none _ _));intro v394 w2 ho3 hb hg_ hnew_;clear hg_ hnew_;(first|rw [← Ny393.out] at ho3|(simp only [Int.reduceToNat] at ho3;rw [← Ny393.out] at ho3));have n0_ := Aside0.mk (Kd.S_lower ho3 (below_size (by repeat (first|(with_reducible first|exact HB.out|apply below_alloc|apply pw_below_drewN|apply below_drew1)|exact HB.out))));have n1_ := Aside0.mk (below_step (by repeat (first|(with_reducible first|exact HB.out|apply below_alloc|apply pw_below_drewN|apply below_drew1)|exact HB.out)) hb);clear HB;have HO395 := n0_;have HB := n1_;clear n0_ n1_;clear hb ho3))
 go_loopg [3,4] k (fun kq v3 v4 w' => ∃ (x3_1 : List (List (S46))) (x4_1 : Int),v4 = .int .i64 x4_1 ∧ Aside0 (impl_kids.l0 kq l0 x3_1 x4_1 = some r) ∧ Aside0 (kq ≤ k) ∧ Aside0 (Kd.S (Kd.slice 46 k46) 33 w' w.heap.size (fun _ => True) v3 x3_1) ∧ Aside0 (Below w.heap.size w w'))
 case atStart => exact ⟨(y393),(1),(by first|rfl|(simp;done)|(simp [*];done)),H',⟨Nat.le_refl _⟩,⟨by (with_reducible repeat (first|apply Kd.S_alloc|apply Kd.S_drewN|apply Kd.S_drew));exact HO395.out⟩,⟨by repeat (first|(with_reducible first|exact HB.out|apply below_alloc|apply pw_below_drewN|apply below_drew1)|exact HB.out)⟩⟩
 case round =>
  clear H'
  try clear p2
  try clear c3
  obtain ⟨x3_1,x4_1,rfl,HA,HK1,HO_3,HB⟩ := hrel
  cases gk with
  | zero => exact absurd HA.out (by simp [impl_kids.l0])
  | succ k1 =>
   have H := HA.out
   clear HA
   simp only [impl_kids.l0] at H
   by_cases c4 : x4_1 < (l0.length : Int)
   ·rw [if_pos c4] at H
    have c4b0 : decide (x4_1 < (l0.length : Int)) = true := decide_eq_true c4
    clear c4
    replace H := Option.bind_eq_some_iff.mp H
    obtain ⟨t396,A50,H⟩ := H
    replace H : (if 0 ≤ x4_1 then (if x4_1 ≤ t396 then (if t396 ≤ (l0.length : Int) then ((impl_deeper.f k1 ((l0.take (t396 : Int).toNat).drop (x4_1 : Int).toNat) (-1)).bind fun t401 => (if x3_1.length < 5864062014805 then ((impl_end.f k1 l0 x4_1).bind fun t407 => (impl_kids.l0 k1 l0 (x3_1 ++ [t401]) t407)) else (none))) else (none)) else (none)) else (none)) = some r := H
    have A5 := Aside0.mk A50
    clear A50
    by_cases c6 : 0 ≤ x4_1
    ·rw [if_pos c6] at H
     have c6b0 := eq_true c6
     have c6b1 : decide (0 ≤ x4_1) = true := decide_eq_true c6
     clear c6
     by_cases c7 : x4_1 ≤ t396
     ·rw [if_pos c7] at H
      have c7b0 := eq_true c7
      have c7b1 : decide (x4_1 ≤ t396) = true := decide_eq_true c7
      clear c7
      by_cases c8 : t396 ≤ (l0.length : Int)
      ·rw [if_pos c8] at H
       have c8b0 := eq_true c8
       have c8b1 : decide (t396 ≤ (l0.length : Int)) = true := decide_eq_true c8
       clear c8
       obtain ⟨y397,hy397⟩ : ∃ y_ : List (S46),y_ = ((l0.take (t396 : Int).toNat).drop (x4_1 : Int).toNat) := ⟨_,rfl⟩
       replace H : ((impl_deeper.f k1 y397 (-1)).bind fun t401 => (if x3_1.length < 5864062014805 then ((impl_end.f k1 l0 x4_1).bind fun t407 => (impl_kids.l0 k1 l0 (x3_1 ++ [t401]) t407)) else (none))) = some r := by first|(rw [hy397];with_reducible exact H)|(have H2_ := (Option.bind_some _ _).symm.trans H;rw [hy397];with_reducible exact H2_)|(have H2_ := (Option.bind_some _ _).symm.trans H;with_reducible exact H2_)|with_reducible exact H|(rw [hy397];exact H)|exact H
       have Ny397 := Aside0.mk hy397
       clear hy397
       replace H := Option.bind_eq_some_iff.mp H
       obtain ⟨t401,A90,H⟩ := H
       replace H : (if x3_1.length < 5864062014805 then ((impl_end.f k1 l0 x4_1).bind fun t407 => (impl_kids.l0 k1 l0 (x3_1 ++ [t401]) t407)) else (none)) = some r := H
       have A9 := Aside0.mk A90
       clear A90
       by_cases c10 : x3_1.length < 5864062014805
       ·rw [if_pos c10] at H
        have LMc10 := Aside0.mk c10
        clear c10
        obtain ⟨y404,hy404⟩ : ∃ y_ : List (List (S46)),y_ = (x3_1 ++ [t401]) := ⟨_,rfl⟩
        replace H : ((impl_end.f k1 l0 x4_1).bind fun t407 => (impl_kids.l0 k1 l0 y404 t407)) = some r := by first|(rw [hy404];with_reducible exact H)|(have H2_ := (Option.bind_some _ _).symm.trans H;rw [hy404];with_reducible exact H2_)|(have H2_ := (Option.bind_some _ _).symm.trans H;with_reducible exact H2_)|with_reducible exact H|(rw [hy404];exact H)|exact H
        have Ny404 := Aside0.mk hy404
        clear hy404
        replace H := Option.bind_eq_some_iff.mp H
        obtain ⟨t407,A110,H⟩ := H
        replace H : (impl_kids.l0 k1 l0 y404 t407) = some r := H
        have A11 := Aside0.mk A110
        clear A110
        have H' := Aside0.mk H
        clear H
        go_wp2_with (first|((with_reducible refine gate_callee (f := 53) rfl ?_);refine goesL_ (some 18) rfl rfl Try.func53 (by kernel_rfl) rfl #[.slice A0 l0.length c0,.int .i64 x4_1] rfl (by (try simp only [List.map_toArray,List.map_cons,List.map_nil]);first|done|rfl|(simp only [List.length_drop,List.length_take];rfl)) ?_;(with_reducible refine (impl_end.calls k1 _ _ l0 x4_1 t396 _ ?side1 ?side2 A5.out).mono ?_);(case side1 => repeat (first|exact (Kd.C_below HR0.out HB.out)|(with_reducible refine Kd.C_alloc ?_ _)|(with_reducible refine Kd.C_drewN ?_ _)|(with_reducible refine Kd.C_drew ?_)));(case side2 => exact HC0.out);rintro e w' ⟨rfl,⟨nd,rfl⟩⟩;refine ⟨_,rfl,?_⟩;have q12 : (t396 : Int) ≤ ((l0.length : Int) : Int) := of_decide_eq_true (by first|(with_reducible assumption)|assumption);obtain ⟨i012,hi012,_,hsz12,_⟩ := info_parts info46;have hroom12 : l0.length ≤ c0 := HC0.out;have hC12 : Kd.C k46 _ A0 l0.length l0 := HR0.out;have ql12 : (x4_1 : Int) ≤ (t396 : Int) := of_decide_eq_true (by first|(with_reducible assumption)|assumption);have q012 : (0 : Int) ≤ (x4_1 : Int) := of_decide_eq_true (by first|(with_reducible assumption)|assumption);have hcut12 := cut_mid (P := Try.prog) 33 46 .i64 .i64 Try.underlying33 hi012 4 hsz12 A0 l0.length c0 x4_1 t396 q012 ql12 q12 hroom12;have hr12 := Kd.C_mid (lo := (x4_1 : Int).toNat) (hi := (t396 : Int).toNat) (c := c0) hC12 (by omega) (by omega) hroom12;obtain ⟨A12,hA12⟩ : ∃ A1,A1 = (if c0 = (x4_1 : Int).toNat then A0 else (A0 : Option Addr).map (·.add ((x4_1 : Int).toNat * 4))) := ⟨_,rfl⟩;obtain ⟨c12,hc12⟩ : ∃ c1,c1 = c0 - (x4_1 : Int).toNat := ⟨_,rfl⟩;have hy12 : y397.length = (t396 : Int).toNat - (x4_1 : Int).toNat := (by rw [Ny397.out,List.length_drop,List.length_take] <;> omega);rw [show ((l0).take (t396 : Int).toNat).drop (x4_1 : Int).toNat = y397 from Ny397.out.symm] at hr12;replace hr12 : Kd.C k46 _ A12 y397.length y397 := (by rw [hA12];exact hr12);rw [← hy12,← hA12,← hc12] at hcut12;have HR400 := Aside0.mk hr12;have HC400 := Aside0.mk (show y397.length ≤ c12 from by rw [hy12,hc12];exact Nat.sub_le_sub_right (Nat.le_trans (by omega) hroom12) _);clear hr12 hC12 hroom12 hi012 hsz12 hc12;have KY12 := Aside0.mk hy12;have KA12 := Aside0.mk hA12;clear hy12 hA12;replace q12 := eq_true q12)|((with_reducible refine gate_callee (f := 54) rfl ?_);refine goesL_ (some 20) rfl rfl Try.func54 (by kernel_rfl) rfl #[.slice A12 y397.length c12,.int .i64 (-1)] rfl (by (try simp only [List.map_toArray,List.map_cons,List.map_nil]);first|done|rfl|(simp only [List.length_drop,List.length_take];rfl)) ?_;(with_reducible refine (impl_deeper.calls k1 _ _ y397 (-1) t401 _ ?side1 ?side2 A9.out).mono ?_);(case side1 => repeat (first|exact (Kd.C_below HR400.out (by repeat (first|(with_reducible first|exact HB.out|apply below_alloc|apply pw_below_drewN|apply below_drew1)|exact HB.out)))|(with_reducible refine Kd.C_alloc ?_ _)|(with_reducible refine Kd.C_drewN ?_ _)|(with_reducible refine Kd.C_drew ?_)));(case side2 => exact HC400.out);rintro e w13 ⟨v402,rfl,ho0,hb⟩;refine ⟨_,rfl,?_⟩;have n0_ := Aside0.mk (Kd.S_elder' (by (with_reducible repeat (first|apply Kd.S_alloc|apply Kd.S_drewN|apply Kd.S_drew));exact HO_3.out) (Kd.R_base ho0) hb);have n1_ := Aside0.mk (Kd.R_lower ho0 (below_size (by repeat (first|(with_reducible first|exact HB.out|apply below_alloc|apply pw_below_drewN|apply below_drew1)|exact HB.out))));have n2_ := Aside0.mk (below_step (by repeat (first|(with_reducible first|exact HB.out|apply below_alloc|apply pw_below_drewN|apply below_drew1)|exact HB.out)) hb);clear HO_3;clear HB;have HO_3 := n0_;have HO403 := n1_;have HB := n2_;clear n0_ n1_ n2_;(try clear hb);(try clear hb2);(try clear hk);(try clear hi);(try clear ho0);obtain ⟨Ao15,co15,eo15⟩ := Kd.R_slice HO403.out;subst eo15)|((with_reducible refine gate_builtin (b := .append) (xs := #[.tmp 13,.tmp 21]) rfl ?_);at_builtin;refine Kd.S_append (Kd.slice 46 k46) (w0 := w) w.heap.size rfl (.tmp 13) (.tmp 21) 41 33 (.slice none 0 0) 24 rfl Try.underlying41 info33 rfl (by decide) (by omega) u3 x3_1 t401 [.slice Ao15 t401.length co15] (fun _ => True) (fun k_ => some k_ = (.slice Ao15 t401.length co15 : Value).ownBlock) rfl rfl ?aP (fun k_ hk_ => ((Kd.R_mono (ok' := fun k_ => ((fun _ => True)) k_ ∧ some k_ ≠ (u3 : Value).ownBlock) (Kd.R_apart' (HO403.out) (Kd.S_typed HO_3.out) (by decide)) (fun k_ hk => ⟨trivial,hk.2⟩))).1 k_ hk_.symm) ?aF ?aO ?aB ?aS ?aL ?_;(case aP => exact Kd.M_row (Kd.R_mono (Kd.R_tight rfl (Kd.R_mono (ok' := fun k_ => ((fun _ => True)) k_ ∧ some k_ ≠ (u3 : Value).ownBlock) (Kd.R_apart' (HO403.out) (Kd.S_typed HO_3.out) (by decide)) (fun k_ hk => ⟨trivial,hk.2⟩))) (fun _ h_ => h_)));(case aB => exact (by repeat (first|(with_reducible first|exact HB.out|apply below_alloc|apply pw_below_drewN|apply below_drew1)|exact HB.out)));(case aF => exact (fun _ _ => trivial));(case aO => exact (by (with_reducible repeat (first|apply Kd.S_alloc|apply Kd.S_drewN|apply Kd.S_drew));exact Kd.S_mono HO_3.out (fun k_ hk => ⟨trivial,fun e_ => hk.2 e_⟩)));(case aS => exact (below_size (by repeat (first|(with_reducible first|exact HB.out|apply below_alloc|apply pw_below_drewN|apply below_drew1)|exact HB.out))));(case aL => have := LMc10.out;omega);intro v405 w14 ho hb hg hat;rw [← Ny404.out] at ho;have n0_ := Aside0.mk (hb);have n1_ := Aside0.mk (ho);clear HB;clear HO_3;clear HO403;have HB := n0_;have HO406 := n1_;clear n0_ n1_;clear ho hb hg hat)|((with_reducible refine gate_callee (f := 53) rfl ?_);refine goesL_ (some 12) rfl rfl Try.func53 (by kernel_rfl) rfl #[.slice A0 l0.length c0,.int .i64 x4_1] rfl (by (try simp only [List.map_toArray,List.map_cons,List.map_nil]);first|done|rfl|(simp only [List.length_drop,List.length_take];rfl)) ?_;(with_reducible refine (impl_end.calls k1 _ _ l0 x4_1 t407 _ ?side1 ?side2 A11.out).mono ?_);(case side1 => repeat (first|exact (Kd.C_below HR0.out HB.out)|(with_reducible refine Kd.C_alloc ?_ _)|(with_reducible refine Kd.C_drewN ?_ _)|(with_reducible refine Kd.C_drew ?_)));(case side2 => exact HC0.out);rintro e w' ⟨rfl,⟨nd,rfl⟩⟩;refine ⟨_,rfl,?_⟩))
        go_roundg k1
        case measure => have := HK1.out;omega
        case rel => exact ⟨(y404),(t407),(by first|rfl|(simp;done)|(simp [*];done)),H',⟨by have := HK1.out;omega⟩,⟨by (with_reducible repeat (first|apply Kd.S_alloc|apply Kd.S_drewN|apply Kd.S_drew));exact HO406.out⟩,⟨by repeat (first|(with_reducible first|exact HB.out|apply below_alloc|apply pw_below_drewN|apply below_drew1)|exact HB.out)⟩⟩
       ·rw [if_neg c10] at H
        exact absurd H (by simp)
      ·rw [if_neg c8] at H
       exact absurd H (by simp)
     ·rw [if_neg c7] at H
      exact absurd H (by simp)
    ·rw [if_neg c6] at H
     exact absurd H (by simp)
   ·rw [if_neg c4] at H
    have c4b0 : decide (x4_1 < (l0.length : Int)) = false := decide_eq_false c4
    clear c4
    obtain rfl := Option.some.inj H
    obtain ⟨Ao16,co16,eo16⟩ := Kd.S_slice HO_3.out
    subst eo16
    have hl17 := (Kd.S_reads' HO_3.out).1
    have hc17 := (Kd.S_reads' HO_3.out).2.1
    have HLE17 := Aside0.mk (show x3_1.length ≤ co16 by omega)
    have hr17 := Kd.S_clip (c' := x3_1.length) HO_3.out (by omega) (by omega)
    clear hl17 hc17 HO_3
    have HO409 := Aside0.mk hr17
    clear hr17
    go_wp2_with (first|(go_at_call 55;refine (impl_Part.calls Ao16 x3_1.length co16 HLE17.out _).mono ?_;rintro e_ w_ ⟨rfl,rfl⟩))
    go_ret
    exact ⟨_,by first|rfl|(simp [errW_none,errW_some] <;> rfl)|(simp [*,errW_none,errW_some] <;> rfl),by (with_reducible repeat (first|apply Kd.S_alloc|apply Kd.S_drewN|apply Kd.S_drew));exact HO409.out,by repeat (first|(with_reducible first|exact HB.out|apply below_alloc|apply pw_below_drewN|apply below_drew1)|exact HB.out)⟩
def impl_KidsOf.f (k : Nat) (l0_0 : List (S70)) (l1 : List (S46)) : Option ((List (List (S46)))) := (impl_ValidGroup.f k l0_0 l1).bind fun t411 => (if t411 = true then ((impl_kids.f k l1).bind fun t412 => (some t412)) else (some ([] : List (List (S46)))))
set_option maxHeartbeats 8000000 in
set_option maxRecDepth 100000 in
theorem impl_KidsOf.calls (k : Nat) (A0_0 : Option Addr) (c0_0 : Nat) (l0_0 : List (S70)) (A1 : Option Addr) (c1 : Nat) (l1 : List (S46)) (r : List (List (S46))) (w : World) (hr0_0 : Kd.C k70 w A0_0 l0_0.length l0_0) (hc0_0 : l0_0.length ≤ c0_0) (hr1 : Kd.C k46 w A1 l1.length l1) (hc1 : l1.length ≤ c1) (h : impl_KidsOf.f k l0_0 l1 = some r) :
  Calls Try.prog 17 #[.agg #[.slice A0_0 l0_0.length c0_0],.slice A1 l1.length c1] w fun e w' => ∃ v0_ : Value,e = .returned (v0_) ∧ Kd.S (Kd.slice 46 k46) 33 w' w.heap.size (fun _ => True) v0_ r ∧ Below w.heap.size w w' := by
 have hu31 := Try.underlying31
 have HR0_0 := Aside0.mk hr0_0
 have HC0_0 := Aside0.mk hc0_0
 clear hr0_0 hc0_0
 have HR1 := Aside0.mk hr1
 have HC1 := Aside0.mk hc1
 clear hr1 hc1
 have HB := Aside0.mk (Below.refl w.heap.size w)
 have H : ((impl_ValidGroup.f k l0_0 l1).bind fun t411 => (if t411 = true then ((impl_kids.f k l1).bind fun t412 => (some t412)) else (some ([] : List (List (S46)))))) = some r := h
 clear h
 replace H := Option.bind_eq_some_iff.mp H
 obtain ⟨t411,A30,H⟩ := H
 replace H : (if t411 = true then ((impl_kids.f k l1).bind fun t412 => (some t412)) else (some ([] : List (List (S46))))) = some r := H
 have A3 := Aside0.mk A30
 clear A30
 by_cases c4 : t411 = true
 ·subst c4
  have H1 : ((impl_kids.f k l1).bind fun t412 => (some t412)) = some r := by rw [if_pos rfl] at H;exact H
  clear H
  have H := H1
  clear H1
  replace H := Option.bind_eq_some_iff.mp H
  obtain ⟨t412,A50,H⟩ := H
  replace H : (some t412) = some r := H
  have A5 := Aside0.mk A50
  clear A50
  obtain rfl := Option.some.inj H
  go_enter Try.func17,Try.ntmps17
  go_wp2_with (first|((with_reducible refine gate_dst (N := 2) rfl ?_);refine box_event ?hg (N := 2) ?hd (cs := #[.slice A0_0 l0_0.length c0_0]) (t := 31) ?hr ?_;(case hd => rfl);(case hg => rfl);(case hr => first|(go_simp;done)|(go_simp;rfl));intro gb410 hg w6 hbox hb;have n0_ := Aside0.mk (below_step (by repeat (first|(with_reducible first|exact HB.out|apply below_alloc|apply pw_below_drewN|apply below_drew1)|exact HB.out)) hb);have n1_ := Aside0.mk (hbox);have n2_ := Aside0.mk ((by rw [hg];exact (below_size (by repeat (first|(with_reducible first|exact HB.out|apply below_alloc|apply pw_below_drewN|apply below_drew1)|exact HB.out))) : w.heap.size ≤ gb410));have n3_ := Aside0.mk ((by rw [hg];exact (below_size (by repeat (first|(with_reducible first|exact HB.out|apply below_alloc|apply pw_below_drewN|apply below_drew1)|exact HB.out))) : w.heap.size ≤ gb410));clear HB;have HB := n0_;have BK410 := n1_;have GW410 := n2_;have GE410 := n3_;clear n0_ n1_ n2_ n3_;clear hb hbox hg;have hcz7_0 : w6.cell? ⟨gb410,0,none⟩ = some (.slice A0_0 l0_0.length c0_0) := (blk_cell BK410.out 0).trans rfl;have hfz7_0 := blk_frozen BK410.out 0)|((with_reducible refine gate_callee (f := 13) rfl ?_);refine goesL_ (some 7) rfl rfl Try.func13 (by kernel_rfl) rfl #[.agg #[.slice A0_0 l0_0.length c0_0],.slice A1 l1.length c1] rfl (by (try simp only [List.map_toArray,List.map_cons,List.map_nil]);first|done|rfl|(simp only [List.length_drop,List.length_take];rfl)) ?_;(with_reducible refine (impl_ValidGroup.calls k _ _ l0_0 _ _ l1 true _ ?side1 ?side2 ?side3 ?side4 A3.out).mono ?_);(case side1 => repeat (first|exact (Kd.C_below HR0_0.out HB.out)|(with_reducible refine Kd.C_alloc ?_ _)|(with_reducible refine Kd.C_drewN ?_ _)|(with_reducible refine Kd.C_drew ?_)));(case side2 => exact HC0_0.out);(case side3 => repeat (first|exact (Kd.C_below HR1.out HB.out)|(with_reducible refine Kd.C_alloc ?_ _)|(with_reducible refine Kd.C_drewN ?_ _)|(with_reducible refine Kd.C_drew ?_)));(case side4 => exact HC1.out);rintro e w8 ⟨rfl,hb⟩;refine ⟨_,rfl,?_⟩;have n0_ := Aside0.mk (blk_below (g := gb410) (o := .cells #[.slice A0_0 l0_0.length c0_0] 31 (0,0)) (by (with_reducible repeat (first|refine blk_drewN ?_ _|refine blk_drew ?_|refine blk_alloc ?_ _));exact BK410.out) hb);have n1_ := Aside0.mk (below_step (by repeat (first|(with_reducible first|exact HB.out|apply below_alloc|apply pw_below_drewN|apply below_drew1|refine below_set ?_ GE410.out)|exact HB.out)) hb);clear BK410;clear HB;have BK410 := n0_;have HB := n1_;clear n0_ n1_;(try clear hb);(try clear hb2);(try clear hk);(try clear hi))|((with_reducible refine gate_callee (f := 35) rfl ?_);refine goesL_ (some 10) rfl rfl Try.func35 (by kernel_rfl) rfl #[.slice A1 l1.length c1] rfl (by (try simp only [List.map_toArray,List.map_cons,List.map_nil]);first|done|rfl|(simp only [List.length_drop,List.length_take];rfl)) ?_;(with_reducible refine (impl_kids.calls k _ _ l1 t412 _ ?side1 ?side2 A5.out).mono ?_);(case side1 => repeat (first|exact (Kd.C_below HR1.out HB.out)|(with_reducible refine Kd.C_alloc ?_ _)|(with_reducible refine Kd.C_drewN ?_ _)|(with_reducible refine Kd.C_drew ?_)));(case side2 => exact HC1.out);rintro e w9 ⟨v413,rfl,ho0,hb⟩;refine ⟨_,rfl,?_⟩;have n0_ := Aside0.mk (Kd.S_lower ho0 (below_size (by repeat (first|(with_reducible first|exact HB.out|apply below_alloc|apply pw_below_drewN|apply below_drew1|refine below_set ?_ GE410.out)|exact HB.out))));have n1_ := Aside0.mk (blk_below (g := gb410) (o := .cells #[.slice A0_0 l0_0.length c0_0] 31 (0,0)) (by (with_reducible repeat (first|refine blk_drewN ?_ _|refine blk_drew ?_|refine blk_alloc ?_ _));exact BK410.out) hb);have n2_ := Aside0.mk (below_step (by repeat (first|(with_reducible first|exact HB.out|apply below_alloc|apply pw_below_drewN|apply below_drew1|refine below_set ?_ GE410.out)|exact HB.out)) hb);clear BK410;clear HB;have HO414 := n0_;have BK410 := n1_;have HB := n2_;clear n0_ n1_ n2_;(try clear hb);(try clear hb2);(try clear hk);(try clear hi);(try clear ho0)))
  go_ret
  exact ⟨_,by first|rfl|(simp [errW_none,errW_some] <;> rfl)|(simp [*,errW_none,errW_some] <;> rfl),by (with_reducible repeat (first|apply Kd.S_alloc|apply Kd.S_drewN|apply Kd.S_drew));exact HO414.out,by repeat (first|(with_reducible first|exact HB.out|apply below_alloc|apply pw_below_drewN|apply below_drew1|refine below_set ?_ GE410.out)|exact HB.out)⟩
 ·replace c4 := Bool.eq_false_iff.mpr c4
  subst c4
  have H1 : (some ([] : List (List (S46)))) = some r := by rw [if_neg (show ¬ (false = true) by decide)] at H;exact H
  clear H
  have H := H1
  clear H1
  obtain rfl := Option.some.inj H
  go_enter Try.func17,Try.ntmps17
  go_wp2_with (first|((with_reducible refine gate_dst (N := 2) rfl ?_);refine box_event ?hg (N := 2) ?hd (cs := #[.slice A0_0 l0_0.length c0_0]) (t := 31) ?hr ?_;(case hd => rfl);(case hg => rfl);(case hr => first|(go_simp;done)|(go_simp;rfl));intro gb410 hg w10 hbox hb;have n0_ := Aside0.mk (below_step (by repeat (first|(with_reducible first|exact HB.out|apply below_alloc|apply pw_below_drewN|apply below_drew1)|exact HB.out)) hb);have n1_ := Aside0.mk (hbox);have n2_ := Aside0.mk ((by rw [hg];exact (below_size (by repeat (first|(with_reducible first|exact HB.out|apply below_alloc|apply pw_below_drewN|apply below_drew1)|exact HB.out))) : w.heap.size ≤ gb410));have n3_ := Aside0.mk ((by rw [hg];exact (below_size (by repeat (first|(with_reducible first|exact HB.out|apply below_alloc|apply pw_below_drewN|apply below_drew1)|exact HB.out))) : w.heap.size ≤ gb410));clear HB;have HB := n0_;have BK410 := n1_;have GW410 := n2_;have GE410 := n3_;clear n0_ n1_ n2_ n3_;clear hb hbox hg;have hcz11_0 : w10.cell? ⟨gb410,0,none⟩ = some (.slice A0_0 l0_0.length c0_0) := (blk_cell BK410.out 0).trans rfl;have hfz11_0 := blk_frozen BK410.out 0)|((with_reducible refine gate_callee (f := 13) rfl ?_);refine goesL_ (some 7) rfl rfl Try.func13 (by kernel_rfl) rfl #[.agg #[.slice A0_0 l0_0.length c0_0],.slice A1 l1.length c1] rfl (by (try simp only [List.map_toArray,List.map_cons,List.map_nil]);first|done|rfl|(simp only [List.length_drop,List.length_take];rfl)) ?_;(with_reducible refine (impl_ValidGroup.calls k _ _ l0_0 _ _ l1 false _ ?side1 ?side2 ?side3 ?side4 A3.out).mono ?_);(case side1 => repeat (first|exact (Kd.C_below HR0_0.out HB.out)|(with_reducible refine Kd.C_alloc ?_ _)|(with_reducible refine Kd.C_drewN ?_ _)|(with_reducible refine Kd.C_drew ?_)));(case side2 => exact HC0_0.out);(case side3 => repeat (first|exact (Kd.C_below HR1.out HB.out)|(with_reducible refine Kd.C_alloc ?_ _)|(with_reducible refine Kd.C_drewN ?_ _)|(with_reducible refine Kd.C_drew ?_)));(case side4 => exact HC1.out);rintro e w12 ⟨rfl,hb⟩;refine ⟨_,rfl,?_⟩;have n0_ := Aside0.mk (blk_below (g := gb410) (o := .cells #[.slice A0_0 l0_0.length c0_0] 31 (0,0)) (by (with_reducible repeat (first|refine blk_drewN ?_ _|refine blk_drew ?_|refine blk_alloc ?_ _));exact BK410.out) hb);have n1_ := Aside0.mk (below_step (by repeat (first|(with_reducible first|exact HB.out|apply below_alloc|apply pw_below_drewN|apply below_drew1|refine below_set ?_ GE410.out)|exact HB.out)) hb);clear BK410;clear HB;have BK410 := n0_;have HB := n1_;clear n0_ n1_;(try clear hb);(try clear hb2);(try clear hk);(try clear hi)))
  go_ret
  exact ⟨_,by first|rfl|(simp [errW_none,errW_some] <;> rfl)|(simp [*,errW_none,errW_some] <;> rfl),by first|exact Kd.S_nil _ _ _ _ _|exact Kd.N_nil _ _ _ _ _|exact Kd.V_nil _ _ _ _ _|exact Kd.Q_nil _ _ _ _ _|exact Kd.R_nil _ _ _ _ _,by repeat (first|(with_reducible first|exact HB.out|apply below_alloc|apply pw_below_drewN|apply below_drew1|refine below_set ?_ GE410.out)|exact HB.out)⟩
def impl_LeavesOf.l0 : Nat → List (S62) → List (S46) → Int → Int → Option ((List (S62)))
 | 0, _, _, _, _ => none
 | k + 1, x5, x15, x16, x17 => if x17 < x16 then (if 0 ≤ x17 then (if x17 < (x15.length : Int) then (if (rd_T46 x15 x17).f1 = true then (impl_LeavesOf.l0 k x5 x15 x16 (wrap64 (x17 + 1))) else (if x5.length < 8796093022208 then (impl_LeavesOf.l0 k (x5 ++ [(⟨(rd_T46 x15 x17).f2, (rd_T46 x15 x17).f3⟩ : S62)]) x15 x16 (wrap64 (x17 + 1))) else (none))) else (none)) else (none)) else (some x5)
def impl_LeavesOf.f (k : Nat) (l0_0 : List (S70)) (l1 : List (S46)) : Option ((List (S62))) := (impl_ValidGroup.f k l0_0 l1).bind fun t416 => (if t416 = true then (if 0 ≤ (l1.length : Int) then (if ((l1.length : Int) : Int).toNat ≤ 17592186044416 then (impl_LeavesOf.l0 k (([] : List (S62))) l1 (l1.length : Int) 0) else (none)) else (none)) else (some ([] : List (S62))))
set_option maxHeartbeats 8000000 in
set_option maxRecDepth 100000 in
theorem impl_LeavesOf.calls (k : Nat) (A0_0 : Option Addr) (c0_0 : Nat) (l0_0 : List (S70)) (A1 : Option Addr) (c1 : Nat) (l1 : List (S46)) (r : List (S62)) (w : World) (hr0_0 : Kd.C k70 w A0_0 l0_0.length l0_0) (hc0_0 : l0_0.length ≤ c0_0) (hr1 : Kd.C k46 w A1 l1.length l1) (hc1 : l1.length ≤ c1) (h : impl_LeavesOf.f k l0_0 l1 = some r) :
  Calls Try.prog 18 #[.agg #[.slice A0_0 l0_0.length c0_0],.slice A1 l1.length c1] w fun e w' => ∃ v0_ : Value,e = .returned (v0_) ∧ Kd.R k62 62 w' w.heap.size (fun _ => True) v0_ r ∧ Below w.heap.size w w' := by
 have hu31 := Try.underlying31
 have hu46 := Try.underlying46
 have hu62 := Try.underlying62
 have HR0_0 := Aside0.mk hr0_0
 have HC0_0 := Aside0.mk hc0_0
 clear hr0_0 hc0_0
 have HR1 := Aside0.mk hr1
 have HC1 := Aside0.mk hc1
 clear hr1 hc1
 have HB := Aside0.mk (Below.refl w.heap.size w)
 have H : ((impl_ValidGroup.f k l0_0 l1).bind fun t416 => (if t416 = true then (if 0 ≤ (l1.length : Int) then (if ((l1.length : Int) : Int).toNat ≤ 17592186044416 then (impl_LeavesOf.l0 k (([] : List (S62))) l1 (l1.length : Int) 0) else (none)) else (none)) else (some ([] : List (S62))))) = some r := h
 clear h
 replace H := Option.bind_eq_some_iff.mp H
 obtain ⟨t416,A30,H⟩ := H
 replace H : (if t416 = true then (if 0 ≤ (l1.length : Int) then (if ((l1.length : Int) : Int).toNat ≤ 17592186044416 then (impl_LeavesOf.l0 k (([] : List (S62))) l1 (l1.length : Int) 0) else (none)) else (none)) else (some ([] : List (S62)))) = some r := H
 have A3 := Aside0.mk A30
 clear A30
 by_cases c4 : t416 = true
 ·subst c4
  have H1 : (if 0 ≤ (l1.length : Int) then (if ((l1.length : Int) : Int).toNat ≤ 17592186044416 then (impl_LeavesOf.l0 k (([] : List (S62))) l1 (l1.length : Int) 0) else (none)) else (none)) = some r := by rw [if_pos rfl] at H;exact H
  clear H
  have H := H1
  clear H1
  by_cases c5 : 0 ≤ (l1.length : Int)
  ·rw [if_pos c5] at H
   have c5b0 := eq_true c5
   have c5b1 : decide (0 ≤ (l1.length : Int)) = true := decide_eq_true c5
   clear c5
   by_cases c6 : ((l1.length : Int) : Int).toNat ≤ 17592186044416
   ·rw [if_pos c6] at H
    have c6b0 := eq_true c6
    have c6b1 : decide (((l1.length : Int) : Int).toNat ≤ 17592186044416) = true := decide_eq_true c6
    clear c6
    obtain ⟨y417,hy417⟩ : ∃ y_ : List (S62),y_ = (([] : List (S62))) := ⟨_,rfl⟩
    replace H : (impl_LeavesOf.l0 k y417 l1 (l1.length : Int) 0) = some r := by first|(rw [hy417];with_reducible exact H)|(have H2_ := (Option.bind_some _ _).symm.trans H;rw [hy417];with_reducible exact H2_)|(have H2_ := (Option.bind_some _ _).symm.trans H;with_reducible exact H2_)|with_reducible exact H|(rw [hy417];exact H)|exact H
    have Ny417 := Aside0.mk hy417
    clear hy417
    have H' := Aside0.mk H
    clear H
    go_enter Try.func18,Try.ntmps18
    go_wp2_with (first|((with_reducible refine gate_dst (N := 2) rfl ?_);refine box_event ?hg (N := 2) ?hd (cs := #[.slice A0_0 l0_0.length c0_0]) (t := 31) ?hr ?_;(case hd => rfl);(case hg => rfl);(case hr => first|(go_simp;done)|(go_simp;rfl));intro gb415 hg w7 hbox hb;have n0_ := Aside0.mk (below_step (by repeat (first|(with_reducible first|exact HB.out|apply below_alloc|apply pw_below_drewN|apply below_drew1)|exact HB.out)) hb);have n1_ := Aside0.mk (hbox);have n2_ := Aside0.mk ((by rw [hg];exact (below_size (by repeat (first|(with_reducible first|exact HB.out|apply below_alloc|apply pw_below_drewN|apply below_drew1)|exact HB.out))) : w.heap.size ≤ gb415));have n3_ := Aside0.mk ((by rw [hg];exact (below_size (by repeat (first|(with_reducible first|exact HB.out|apply below_alloc|apply pw_below_drewN|apply below_drew1)|exact HB.out))) : w.heap.size ≤ gb415));clear HB;have HB := n0_;have BK415 := n1_;have GW415 := n2_;have GE415 := n3_;clear n0_ n1_ n2_ n3_;clear hb hbox hg;have hcz8_0 : w7.cell? ⟨gb415,0,none⟩ = some (.slice A0_0 l0_0.length c0_0) := (blk_cell BK415.out 0).trans rfl;have hfz8_0 := blk_frozen BK415.out 0)|((with_reducible refine gate_callee (f := 13) rfl ?_);refine goesL_ (some 10) rfl rfl Try.func13 (by kernel_rfl) rfl #[.agg #[.slice A0_0 l0_0.length c0_0],.slice A1 l1.length c1] rfl (by (try simp only [List.map_toArray,List.map_cons,List.map_nil]);first|done|rfl|(simp only [List.length_drop,List.length_take];rfl)) ?_;(with_reducible refine (impl_ValidGroup.calls k _ _ l0_0 _ _ l1 true _ ?side1 ?side2 ?side3 ?side4 A3.out).mono ?_);(case side1 => repeat (first|exact (Kd.C_below HR0_0.out HB.out)|(with_reducible refine Kd.C_alloc ?_ _)|(with_reducible refine Kd.C_drewN ?_ _)|(with_reducible refine Kd.C_drew ?_)));(case side2 => exact HC0_0.out);(case side3 => repeat (first|exact (Kd.C_below HR1.out HB.out)|(with_reducible refine Kd.C_alloc ?_ _)|(with_reducible refine Kd.C_drewN ?_ _)|(with_reducible refine Kd.C_drew ?_)));(case side4 => exact HC1.out);rintro e w9 ⟨rfl,hb⟩;refine ⟨_,rfl,?_⟩;have n0_ := Aside0.mk (blk_below (g := gb415) (o := .cells #[.slice A0_0 l0_0.length c0_0] 31 (0,0)) (by (with_reducible repeat (first|refine blk_drewN ?_ _|refine blk_drew ?_|refine blk_alloc ?_ _));exact BK415.out) hb);have n1_ := Aside0.mk (below_step (by repeat (first|(with_reducible first|exact HB.out|apply below_alloc|apply pw_below_drewN|apply below_drew1|refine below_set ?_ GE415.out)|exact HB.out)) hb);clear BK415;clear HB;have BK415 := n0_;have HB := n1_;clear n0_ n1_;(try clear hb);(try clear hb2);(try clear hk);(try clear hi))|((with_reducible refine gate_dst (N := 14) rfl ?_);refine Kd.R_make0 k62 _ 62 rfl (N := 14) rfl 43 _ _ rfl (l1.length : Int) rfl rfl Try.underlying43 (.agg #[(.int .i64 0),(.int .i64 0)]) 16 info62 rfl (by decide) (by omega) z62 (ok := fun _ => True) (okp := fun _ => True) (k62_mkM _ _ _ z62 ) (fun _ hk => hk) trivial (of_decide_eq_true (by first|(with_reducible assumption)|assumption)) (Nat.le_trans (Nat.mul_le_mul_right _ (of_decide_eq_true (by first|(with_reducible assumption)|assumption) : (l1.length : Int).toNat ≤ 17592186044416)) (by omega)) (Below.refl _ _) (Nat.le_refl _) ?_;intro v418 w10 ho11 hb hg_ hnew_;clear hg_ hnew_;(first|rw [← Ny417.out] at ho11|(simp only [Int.reduceToNat] at ho11;rw [← Ny417.out] at ho11));have n0_ := Aside0.mk (Kd.R_lower ho11 (below_size (by repeat (first|(with_reducible first|exact HB.out|apply below_alloc|apply pw_below_drewN|apply below_drew1|refine below_set ?_ GE415.out)|exact HB.out))));have n1_ := Aside0.mk (blk_below (g := gb415) (o := .cells #[.slice A0_0 l0_0.length c0_0] 31 (0,0)) (by (with_reducible repeat (first|refine blk_drewN ?_ _|refine blk_drew ?_|refine blk_alloc ?_ _));exact BK415.out) hb);have n2_ := Aside0.mk (below_step (by repeat (first|(with_reducible first|exact HB.out|apply below_alloc|apply pw_below_drewN|apply below_drew1|refine below_set ?_ GE415.out)|exact HB.out)) hb);clear BK415;clear HB;have HO419 := n0_;have BK415 := n1_;have HB := n2_;clear n0_ n1_ n2_;clear hb ho11))
    go_loopg [5,17] k (fun kq v5 v17 w' => ∃ (x5_1 : List (S62)) (x17_1 : Int),v17 = .int .i64 x17_1 ∧ Aside0 (impl_LeavesOf.l0 kq x5_1 l1 (l1.length : Int) x17_1 = some r) ∧ Aside0 (kq ≤ k) ∧ Aside0 (Kd.R k62 62 w' w.heap.size (fun _ => True) v5 x5_1) ∧ Aside0 (w'.heap[gb415]? = some (.cells #[(.slice A0_0 l0_0.length c0_0)] 31 (0,0))) ∧ Aside0 (Below w.heap.size w w'))
    case atStart => exact ⟨(y417),(0),(by first|rfl|(simp;done)|(simp [*];done)),H',⟨Nat.le_refl _⟩,⟨by (with_reducible repeat (first|apply Kd.R_alloc|apply Kd.R_drewN|apply Kd.R_drew));exact HO419.out⟩,⟨by (with_reducible repeat (first|refine blk_drewN ?_ _|refine blk_drew ?_|refine blk_alloc ?_ _));exact BK415.out⟩,⟨by repeat (first|(with_reducible first|exact HB.out|apply below_alloc|apply pw_below_drewN|apply below_drew1|refine below_set ?_ GE415.out)|exact HB.out)⟩⟩
    case round =>
     clear H'
     try clear c1
     try clear p2
     try clear c4
     try clear c5
     try clear c5b0
     try clear c5b1
     try clear c6
     try clear c6b0
     try clear c6b1
     try clear hcz8_0
     try clear hfz8_0
     obtain ⟨x5_1,x17_1,rfl,HA,HK1,HO_5,BK415,HB⟩ := hrel
     cases gk with
     | zero => exact absurd HA.out (by simp [impl_LeavesOf.l0])
     | succ k1 =>
      have H := HA.out
      clear HA
      simp only [impl_LeavesOf.l0] at H
      by_cases c12 : x17_1 < (l1.length : Int)
      ·rw [if_pos c12] at H
       have c12b0 : decide (x17_1 < (l1.length : Int)) = true := decide_eq_true c12
       clear c12
       by_cases c13 : 0 ≤ x17_1
       ·rw [if_pos c13] at H
        have c13b0 : decide (0 ≤ x17_1) = true := decide_eq_true c13
        clear c13
        by_cases c14 : x17_1 < (l1.length : Int)
        ·rw [if_pos c14] at H
         have c14b0 : decide (x17_1 < (l1.length : Int)) = true := decide_eq_true c14
         clear c14
         obtain ⟨bq15,hbq15⟩ : ∃ b_ : Bool,b_ = ((rd_T46 l1 x17_1).f1) := ⟨_,rfl⟩
         replace H : (if bq15 = true then (impl_LeavesOf.l0 k1 x5_1 l1 (l1.length : Int) (wrap64 (x17_1 + 1))) else (if x5_1.length < 8796093022208 then (impl_LeavesOf.l0 k1 (x5_1 ++ [(⟨(rd_T46 l1 x17_1).f2,(rd_T46 l1 x17_1).f3⟩ : S62)]) l1 (l1.length : Int) (wrap64 (x17_1 + 1))) else (none))) = some r := by rw [← hbq15] at H;exact H
         have Nbq15 := Aside0.mk hbq15
         clear hbq15
         by_cases c16 : bq15 = true
         ·subst c16
          have H1 : (impl_LeavesOf.l0 k1 x5_1 l1 (l1.length : Int) (wrap64 (x17_1 + 1))) = some r := by rw [if_pos rfl] at H;exact H
          clear H
          have H := H1
          clear H1
          have H' := Aside0.mk H
          clear H
          have p420 : 0 ≤ (x17_1 : Int) := of_decide_eq_true (by first|(with_reducible assumption)|assumption)
          have q420 : x17_1 < (l1.length : Int) := of_decide_eq_true (by first|(with_reducible assumption)|assumption)
          obtain ⟨ad420,e420,hx420_0,hx420_1,hx420_2,hx420_3⟩ := at_T46 HR1.out x17_1 p420 q420
          (try rw [← Nbq15.out] at hx420_1)
          cases e420
          replace hx420_0 := (HB.out.cell (World.block_lt_of_cell? w _ hx420_0)).trans hx420_0
          replace hx420_1 := (HB.out.cell (World.block_lt_of_cell? w _ hx420_1)).trans hx420_1
          replace hx420_2 := (HB.out.cell (World.block_lt_of_cell? w _ hx420_2)).trans hx420_2
          replace hx420_3 := (HB.out.cell (World.block_lt_of_cell? w _ hx420_3)).trans hx420_3
          replace p420 := eq_true p420
          replace q420 := eq_true q420
          go_wp2_with (first|((with_reducible refine gate_dst (N := 7) rfl ?_);refine box_event ?hg (N := 7) ?hd (cs := #[.int .i64 0,.bool false,.int .i64 0,.int .i64 0]) (t := 46) ?hr ?_;(case hd => rfl);(case hg => rfl);(case hr => first|(go_simp;done)|(go_simp;rfl));intro gb421 hg w17 hbox hb;have n0_ := Aside0.mk (Kd.R_below (by (with_reducible repeat (first|apply Kd.R_alloc|apply Kd.R_drewN|apply Kd.R_drew));exact HO_5.out) hb);have n1_ := Aside0.mk (blk_below (g := gb415) (o := .cells #[.slice A0_0 l0_0.length c0_0] 31 (0,0)) (by (with_reducible repeat (first|refine blk_drewN ?_ _|refine blk_drew ?_|refine blk_alloc ?_ _));exact BK415.out) hb);have n2_ := Aside0.mk (below_step (by repeat (first|(with_reducible first|exact HB.out|apply below_alloc|apply pw_below_drewN|apply below_drew1|refine below_set ?_ GE415.out)|exact HB.out)) hb);have n3_ := Aside0.mk (hbox);have n4_ := Aside0.mk ((by rw [hg];exact (below_size (by repeat (first|(with_reducible first|exact HB.out|apply below_alloc|apply pw_below_drewN|apply below_drew1|refine below_set ?_ GE415.out)|exact HB.out))) : w.heap.size ≤ gb421));have n5_ := Aside0.mk ((by rw [hg];exact (below_size (by repeat (first|(with_reducible first|exact HB.out|apply below_alloc|apply pw_below_drewN|apply below_drew1|refine below_set ?_ GE415.out)|exact HB.out))) : w.heap.size ≤ gb421));have n6_ := Aside0.mk ((by rw [hg];exact Nat.ne_of_lt (blk_lt (g := gb415) (o := .cells #[.slice A0_0 l0_0.length c0_0] 31 (0,0)) (by (with_reducible repeat (first|refine blk_drewN ?_ _|refine blk_drew ?_|refine blk_alloc ?_ _));exact BK415.out)) : gb415 ≠ gb421));have n7_ := Aside0.mk ((by rw [hg];exact Nat.ne_of_gt (blk_lt (g := gb415) (o := .cells #[.slice A0_0 l0_0.length c0_0] 31 (0,0)) (by (with_reducible repeat (first|refine blk_drewN ?_ _|refine blk_drew ?_|refine blk_alloc ?_ _));exact BK415.out)) : gb421 ≠ gb415));clear HO_5;clear BK415;clear HB;have HO_5 := n0_;have BK415 := n1_;have HB := n2_;have BK421 := n3_;have GW421 := n4_;have GE421 := n5_;have NB415_421 := n6_;have NB421_415 := n7_;clear n0_ n1_ n2_ n3_ n4_ n5_ n6_ n7_;clear hb hbox hg;have hnb18 := NB421_415.out;have hnc18 := NB415_421.out;have hcz19_0 : w17.cell? ⟨gb421,0,none⟩ = some (.int .i64 0) := (blk_cell BK421.out 0).trans rfl;have hcz19_1 : w17.cell? ⟨gb421,1,none⟩ = some (.bool false) := (blk_cell BK421.out 1).trans rfl;have hcz19_2 : w17.cell? ⟨gb421,2,none⟩ = some (.int .i64 0) := (blk_cell BK421.out 2).trans rfl;have hcz19_3 : w17.cell? ⟨gb421,3,none⟩ = some (.int .i64 0) := (blk_cell BK421.out 3).trans rfl;have hfz19_0 := blk_frozen BK421.out 0;have hfz19_1 := blk_frozen BK421.out 1;have hfz19_2 := blk_frozen BK421.out 2;have hfz19_3 := blk_frozen BK421.out 3))
          go_roundg k1
          case measure => have := HK1.out;omega
          case rel => exact ⟨(x5_1),(wrap64 (x17_1 + 1)),(by first|rfl|(simp;done)|(simp [*];done)),H',⟨by have := HK1.out;omega⟩,⟨by (with_reducible repeat (first|apply Kd.R_alloc|apply Kd.R_drewN|apply Kd.R_drew));exact Kd.R_mono (Kd.R_far (p := ⟨gb421,3,none⟩) (Kd.R_far (p := ⟨gb421,2,none⟩) (Kd.R_far (p := ⟨gb421,1,none⟩) (Kd.R_far (p := ⟨gb421,0,none⟩) (Kd.R_types HO_5.out BK421.out (by decide)) (fun _ hk => hk.2) (.int .i64 ((rd_T46 l1 x17_1).f0))) (fun _ hk => hk.2) (.bool true)) (fun _ hk => hk.2) (.int .i64 ((rd_T46 l1 x17_1).f2))) (fun _ hk => hk.2) (.int .i64 ((rd_T46 l1 x17_1).f3))) (fun _ hk => trivial)⟩,⟨by (with_reducible repeat (first|refine blk_drewN ?_ _|refine blk_drew ?_|refine blk_alloc ?_ _));refine blk_far ?_ NB415_421.out _;(with_reducible repeat (first|refine blk_drewN ?_ _|refine blk_drew ?_|refine blk_alloc ?_ _));refine blk_far ?_ NB415_421.out _;(with_reducible repeat (first|refine blk_drewN ?_ _|refine blk_drew ?_|refine blk_alloc ?_ _));refine blk_far ?_ NB415_421.out _;(with_reducible repeat (first|refine blk_drewN ?_ _|refine blk_drew ?_|refine blk_alloc ?_ _));refine blk_far ?_ NB415_421.out _;(with_reducible repeat (first|refine blk_drewN ?_ _|refine blk_drew ?_|refine blk_alloc ?_ _));exact BK415.out⟩,⟨by repeat (first|(with_reducible first|exact HB.out|apply below_alloc|apply pw_below_drewN|apply below_drew1|refine below_set ?_ GE415.out|refine below_set ?_ GE421.out)|exact HB.out)⟩⟩
         ·replace c16 := Bool.eq_false_iff.mpr c16
          subst c16
          have H1 : (if x5_1.length < 8796093022208 then (impl_LeavesOf.l0 k1 (x5_1 ++ [(⟨(rd_T46 l1 x17_1).f2,(rd_T46 l1 x17_1).f3⟩ : S62)]) l1 (l1.length : Int) (wrap64 (x17_1 + 1))) else (none)) = some r := by rw [if_neg (show ¬ (false = true) by decide)] at H;exact H
          clear H
          have H := H1
          clear H1
          by_cases c20 : x5_1.length < 8796093022208
          ·rw [if_pos c20] at H
           have LMc20 := Aside0.mk c20
           clear c20
           obtain ⟨y422,hy422⟩ : ∃ y_ : List (S62),y_ = (x5_1 ++ [(⟨(rd_T46 l1 x17_1).f2,(rd_T46 l1 x17_1).f3⟩ : S62)]) := ⟨_,rfl⟩
           replace H : (impl_LeavesOf.l0 k1 y422 l1 (l1.length : Int) (wrap64 (x17_1 + 1))) = some r := by first|(rw [hy422];with_reducible exact H)|(have H2_ := (Option.bind_some _ _).symm.trans H;rw [hy422];with_reducible exact H2_)|(have H2_ := (Option.bind_some _ _).symm.trans H;with_reducible exact H2_)|with_reducible exact H|(rw [hy422];exact H)|exact H
           have Ny422 := Aside0.mk hy422
           clear hy422
           have H' := Aside0.mk H
           clear H
           have p420 : 0 ≤ (x17_1 : Int) := of_decide_eq_true (by first|(with_reducible assumption)|assumption)
           have q420 : x17_1 < (l1.length : Int) := of_decide_eq_true (by first|(with_reducible assumption)|assumption)
           obtain ⟨ad420,e420,hx420_0,hx420_1,hx420_2,hx420_3⟩ := at_T46 HR1.out x17_1 p420 q420
           (try rw [← Nbq15.out] at hx420_1)
           cases e420
           replace hx420_0 := (HB.out.cell (World.block_lt_of_cell? w _ hx420_0)).trans hx420_0
           replace hx420_1 := (HB.out.cell (World.block_lt_of_cell? w _ hx420_1)).trans hx420_1
           replace hx420_2 := (HB.out.cell (World.block_lt_of_cell? w _ hx420_2)).trans hx420_2
           replace hx420_3 := (HB.out.cell (World.block_lt_of_cell? w _ hx420_3)).trans hx420_3
           replace p420 := eq_true p420
           replace q420 := eq_true q420
           go_wp2_with (first|((with_reducible refine gate_dst (N := 7) rfl ?_);refine box_event ?hg (N := 7) ?hd (cs := #[.int .i64 0,.bool false,.int .i64 0,.int .i64 0]) (t := 46) ?hr ?_;(case hd => rfl);(case hg => rfl);(case hr => first|(go_simp;done)|(go_simp;rfl));intro gb421 hg w21 hbox hb;have n0_ := Aside0.mk (Kd.R_below (by (with_reducible repeat (first|apply Kd.R_alloc|apply Kd.R_drewN|apply Kd.R_drew));exact HO_5.out) hb);have n1_ := Aside0.mk (blk_below (g := gb415) (o := .cells #[.slice A0_0 l0_0.length c0_0] 31 (0,0)) (by (with_reducible repeat (first|refine blk_drewN ?_ _|refine blk_drew ?_|refine blk_alloc ?_ _));exact BK415.out) hb);have n2_ := Aside0.mk (below_step (by repeat (first|(with_reducible first|exact HB.out|apply below_alloc|apply pw_below_drewN|apply below_drew1|refine below_set ?_ GE415.out)|exact HB.out)) hb);have n3_ := Aside0.mk (hbox);have n4_ := Aside0.mk ((by rw [hg];exact (below_size (by repeat (first|(with_reducible first|exact HB.out|apply below_alloc|apply pw_below_drewN|apply below_drew1|refine below_set ?_ GE415.out)|exact HB.out))) : w.heap.size ≤ gb421));have n5_ := Aside0.mk ((by rw [hg];exact (below_size (by repeat (first|(with_reducible first|exact HB.out|apply below_alloc|apply pw_below_drewN|apply below_drew1|refine below_set ?_ GE415.out)|exact HB.out))) : w.heap.size ≤ gb421));have n6_ := Aside0.mk ((by rw [hg];exact Nat.ne_of_lt (blk_lt (g := gb415) (o := .cells #[.slice A0_0 l0_0.length c0_0] 31 (0,0)) (by (with_reducible repeat (first|refine blk_drewN ?_ _|refine blk_drew ?_|refine blk_alloc ?_ _));exact BK415.out)) : gb415 ≠ gb421));have n7_ := Aside0.mk ((by rw [hg];exact Nat.ne_of_gt (blk_lt (g := gb415) (o := .cells #[.slice A0_0 l0_0.length c0_0] 31 (0,0)) (by (with_reducible repeat (first|refine blk_drewN ?_ _|refine blk_drew ?_|refine blk_alloc ?_ _));exact BK415.out)) : gb421 ≠ gb415));clear HO_5;clear BK415;clear HB;have HO_5 := n0_;have BK415 := n1_;have HB := n2_;have BK421 := n3_;have GW421 := n4_;have GE421 := n5_;have NB415_421 := n6_;have NB421_415 := n7_;clear n0_ n1_ n2_ n3_ n4_ n5_ n6_ n7_;clear hb hbox hg;have hnb22 := NB421_415.out;have hnc22 := NB415_421.out;have hcz23_0 : w21.cell? ⟨gb421,0,none⟩ = some (.int .i64 0) := (blk_cell BK421.out 0).trans rfl;have hcz23_1 : w21.cell? ⟨gb421,1,none⟩ = some (.bool false) := (blk_cell BK421.out 1).trans rfl;have hcz23_2 : w21.cell? ⟨gb421,2,none⟩ = some (.int .i64 0) := (blk_cell BK421.out 2).trans rfl;have hcz23_3 : w21.cell? ⟨gb421,3,none⟩ = some (.int .i64 0) := (blk_cell BK421.out 3).trans rfl;have hfz23_0 := blk_frozen BK421.out 0;have hfz23_1 := blk_frozen BK421.out 1;have hfz23_2 := blk_frozen BK421.out 2;have hfz23_3 := blk_frozen BK421.out 3)|((with_reducible refine gate_builtin (b := .append) (xs := #[.tmp 24,.tmp 30]) rfl ?_);at_builtin;refine Kd.R_append k62 (w0 := w) w.heap.size rfl (.tmp 24) (.tmp 30) 43 62 (.agg #[(.int .i64 0),(.int .i64 0)]) 16 rfl Try.underlying43 info62 rfl (by decide) (by omega) u5 x5_1 (⟨(rd_T46 l1 x17_1).f2,(rd_T46 l1 x17_1).f3⟩ : S62) [.int .i64 ((rd_T46 l1 x17_1).f2),.int .i64 ((rd_T46 l1 x17_1).f3)] (fun _ => True) (fun _ => False) rfl (by first|(go_simp;done)|(go_simp;rfl)) ?aP (fun _ hk => hk.elim) ?aF ?aO ?aB ?aS ?aL ?_;(case aP => exact k62_mkM _ _ _ (⟨(rd_T46 l1 x17_1).f2,(rd_T46 l1 x17_1).f3⟩ : S62));(case aB => exact (by repeat (first|(with_reducible first|exact HB.out|apply below_alloc|apply pw_below_drewN|apply below_drew1|refine below_set ?_ GE415.out|refine below_set ?_ GE421.out)|exact HB.out)));(case aF => exact (fun _ _ => trivial));(case aO => exact (by (with_reducible repeat (first|apply Kd.R_alloc|apply Kd.R_drewN|apply Kd.R_drew));exact Kd.R_mono (Kd.R_far (p := ⟨gb421,3,none⟩) (Kd.R_far (p := ⟨gb421,2,none⟩) (Kd.R_far (p := ⟨gb421,1,none⟩) (Kd.R_far (p := ⟨gb421,0,none⟩) (Kd.R_types HO_5.out BK421.out (by decide)) (fun _ hk => hk.2) (.int .i64 ((rd_T46 l1 x17_1).f0))) (fun _ hk => hk.2) (.bool false)) (fun _ hk => hk.2) (.int .i64 ((rd_T46 l1 x17_1).f2))) (fun _ hk => hk.2) (.int .i64 ((rd_T46 l1 x17_1).f3))) (fun _ hk => trivial)));(case aS => exact (below_size (by repeat (first|(with_reducible first|exact HB.out|apply below_alloc|apply pw_below_drewN|apply below_drew1|refine below_set ?_ GE415.out|refine below_set ?_ GE421.out)|exact HB.out))));(case aL => have := LMc20.out;omega);intro v423 w24 ho hb hg hat;rw [← Ny422.out] at ho;have n0_ := Aside0.mk (blk_grown (g := gb415) (o := .cells #[.slice A0_0 l0_0.length c0_0] 31 (0,0)) (by (with_reducible repeat (first|refine blk_drewN ?_ _|refine blk_drew ?_|refine blk_alloc ?_ _));refine blk_far ?_ NB415_421.out _;(with_reducible repeat (first|refine blk_drewN ?_ _|refine blk_drew ?_|refine blk_alloc ?_ _));refine blk_far ?_ NB415_421.out _;(with_reducible repeat (first|refine blk_drewN ?_ _|refine blk_drew ?_|refine blk_alloc ?_ _));refine blk_far ?_ NB415_421.out _;(with_reducible repeat (first|refine blk_drewN ?_ _|refine blk_drew ?_|refine blk_alloc ?_ _));refine blk_far ?_ NB415_421.out _;(with_reducible repeat (first|refine blk_drewN ?_ _|refine blk_drew ?_|refine blk_alloc ?_ _));exact BK415.out) hg (Kd.R_ne HO_5.out BK415.out (by decide)));have n1_ := Aside0.mk (blk_grown (g := gb421) (o := .cells #[.int .i64 ((rd_T46 l1 x17_1).f0),.bool false,.int .i64 ((rd_T46 l1 x17_1).f2),.int .i64 ((rd_T46 l1 x17_1).f3)] 46 (0,0)) (by (with_reducible repeat (first|refine blk_drewN ?_ _|refine blk_drew ?_|refine blk_alloc ?_ _));refine blk_put (cs := #[.int .i64 ((rd_T46 l1 x17_1).f0),.bool false,.int .i64 ((rd_T46 l1 x17_1).f2),.int .i64 0]) ?_ 3 _ rfl;(with_reducible repeat (first|refine blk_drewN ?_ _|refine blk_drew ?_|refine blk_alloc ?_ _));refine blk_put (cs := #[.int .i64 ((rd_T46 l1 x17_1).f0),.bool false,.int .i64 0,.int .i64 0]) ?_ 2 _ rfl;(with_reducible repeat (first|refine blk_drewN ?_ _|refine blk_drew ?_|refine blk_alloc ?_ _));refine blk_put (cs := #[.int .i64 ((rd_T46 l1 x17_1).f0),.bool false,.int .i64 0,.int .i64 0]) ?_ 1 _ rfl;(with_reducible repeat (first|refine blk_drewN ?_ _|refine blk_drew ?_|refine blk_alloc ?_ _));refine blk_put (cs := #[.int .i64 0,.bool false,.int .i64 0,.int .i64 0]) ?_ 0 _ rfl;(with_reducible repeat (first|refine blk_drewN ?_ _|refine blk_drew ?_|refine blk_alloc ?_ _));exact BK421.out) hg (Kd.R_ne HO_5.out BK421.out (by decide)));have n2_ := Aside0.mk (hb);have n3_ := Aside0.mk (ho);clear BK415;clear BK421;clear HB;clear HO_5;have BK415 := n0_;have BK421 := n1_;have HB := n2_;have HO424 := n3_;clear n0_ n1_ n2_ n3_;clear ho hb hg hat))
           go_roundg k1
           case measure => have := HK1.out;omega
           case rel => exact ⟨(y422),(wrap64 (x17_1 + 1)),(by first|rfl|(simp;done)|(simp [*];done)),H',⟨by have := HK1.out;omega⟩,⟨by (with_reducible repeat (first|apply Kd.R_alloc|apply Kd.R_drewN|apply Kd.R_drew));exact HO424.out⟩,⟨by (with_reducible repeat (first|refine blk_drewN ?_ _|refine blk_drew ?_|refine blk_alloc ?_ _));exact BK415.out⟩,⟨by repeat (first|(with_reducible first|exact HB.out|apply below_alloc|apply pw_below_drewN|apply below_drew1|refine below_set ?_ GE415.out|refine below_set ?_ GE421.out)|exact HB.out)⟩⟩
          ·rw [if_neg c20] at H
           exact absurd H (by simp)
        ·rw [if_neg c14] at H
         exact absurd H (by simp)
       ·rw [if_neg c13] at H
        exact absurd H (by simp)
      ·rw [if_neg c12] at H
       have c12b0 : decide (x17_1 < (l1.length : Int)) = false := decide_eq_false c12
       clear c12
       obtain rfl := Option.some.inj H
       obtain ⟨Ao25,co25,eo25⟩ := Kd.R_slice HO_5.out
       subst eo25
       obtain ⟨i026,hi026,_,hsz26,_⟩ := info_parts info62
       have hl26 := (Kd.R_reads' HO_5.out).1
       have hc26 := (Kd.R_reads' HO_5.out).2.1
       have hcut26 := cut_clip (P := Try.prog) 43 62 .i64 .i64 Try.underlying43 hi026 Ao25 x5_1.length co25 x5_1.length (by omega) (by omega)
       have hr26 := Kd.R_clip (c' := x5_1.length) HO_5.out (by omega) (by omega)
       clear hl26 hc26 hi026 hsz26 HO_5
       have HO426 := Aside0.mk hr26
       clear hr26
       go_wp2
       go_ret
       exact ⟨_,by first|rfl|(simp [errW_none,errW_some] <;> rfl)|(simp [*,errW_none,errW_some] <;> rfl),by (with_reducible repeat (first|apply Kd.R_alloc|apply Kd.R_drewN|apply Kd.R_drew));exact HO426.out,by repeat (first|(with_reducible first|exact HB.out|apply below_alloc|apply pw_below_drewN|apply below_drew1|refine below_set ?_ GE415.out)|exact HB.out)⟩
   ·rw [if_neg c6] at H
    exact absurd H (by simp)
  ·rw [if_neg c5] at H
   exact absurd H (by simp)
 ·replace c4 := Bool.eq_false_iff.mpr c4
  subst c4
  have H1 : (some ([] : List (S62))) = some r := by rw [if_neg (show ¬ (false = true) by decide)] at H;exact H
  clear H
  have H := H1
  clear H1
  obtain rfl := Option.some.inj H
  go_enter Try.func18,Try.ntmps18
  go_wp2_with (first|((with_reducible refine gate_dst (N := 2) rfl ?_);refine box_event ?hg (N := 2) ?hd (cs := #[.slice A0_0 l0_0.length c0_0]) (t := 31) ?hr ?_;(case hd => rfl);(case hg => rfl);(case hr => first|(go_simp;done)|(go_simp;rfl));intro gb415 hg w27 hbox hb;have n0_ := Aside0.mk (below_step (by repeat (first|(with_reducible first|exact HB.out|apply below_alloc|apply pw_below_drewN|apply below_drew1)|exact HB.out)) hb);have n1_ := Aside0.mk (hbox);have n2_ := Aside0.mk ((by rw [hg];exact (below_size (by repeat (first|(with_reducible first|exact HB.out|apply below_alloc|apply pw_below_drewN|apply below_drew1)|exact HB.out))) : w.heap.size ≤ gb415));have n3_ := Aside0.mk ((by rw [hg];exact (below_size (by repeat (first|(with_reducible first|exact HB.out|apply below_alloc|apply pw_below_drewN|apply below_drew1)|exact HB.out))) : w.heap.size ≤ gb415));clear HB;have HB := n0_;have BK415 := n1_;have GW415 := n2_;have GE415 := n3_;clear n0_ n1_ n2_ n3_;clear hb hbox hg;have hcz28_0 : w27.cell? ⟨gb415,0,none⟩ = some (.slice A0_0 l0_0.length c0_0) := (blk_cell BK415.out 0).trans rfl;have hfz28_0 := blk_frozen BK415.out 0)|((with_reducible refine gate_callee (f := 13) rfl ?_);refine goesL_ (some 10) rfl rfl Try.func13 (by kernel_rfl) rfl #[.agg #[.slice A0_0 l0_0.length c0_0],.slice A1 l1.length c1] rfl (by (try simp only [List.map_toArray,List.map_cons,List.map_nil]);first|done|rfl|(simp only [List.length_drop,List.length_take];rfl)) ?_;(with_reducible refine (impl_ValidGroup.calls k _ _ l0_0 _ _ l1 false _ ?side1 ?side2 ?side3 ?side4 A3.out).mono ?_);(case side1 => repeat (first|exact (Kd.C_below HR0_0.out HB.out)|(with_reducible refine Kd.C_alloc ?_ _)|(with_reducible refine Kd.C_drewN ?_ _)|(with_reducible refine Kd.C_drew ?_)));(case side2 => exact HC0_0.out);(case side3 => repeat (first|exact (Kd.C_below HR1.out HB.out)|(with_reducible refine Kd.C_alloc ?_ _)|(with_reducible refine Kd.C_drewN ?_ _)|(with_reducible refine Kd.C_drew ?_)));(case side4 => exact HC1.out);rintro e w29 ⟨rfl,hb⟩;refine ⟨_,rfl,?_⟩;have n0_ := Aside0.mk (blk_below (g := gb415) (o := .cells #[.slice A0_0 l0_0.length c0_0] 31 (0,0)) (by (with_reducible repeat (first|refine blk_drewN ?_ _|refine blk_drew ?_|refine blk_alloc ?_ _));exact BK415.out) hb);have n1_ := Aside0.mk (below_step (by repeat (first|(with_reducible first|exact HB.out|apply below_alloc|apply pw_below_drewN|apply below_drew1|refine below_set ?_ GE415.out)|exact HB.out)) hb);clear BK415;clear HB;have BK415 := n0_;have HB := n1_;clear n0_ n1_;(try clear hb);(try clear hb2);(try clear hk);(try clear hi)))
  go_ret
  exact ⟨_,by first|rfl|(simp [errW_none,errW_some] <;> rfl)|(simp [*,errW_none,errW_some] <;> rfl),by first|exact Kd.R_nil _ _ _ _ _|exact Kd.N_nil _ _ _ _ _|exact Kd.V_nil _ _ _ _ _|exact Kd.Q_nil _ _ _ _ _|exact Kd.S_nil _ _ _ _ _,by repeat (first|(with_reducible first|exact HB.out|apply below_alloc|apply pw_below_drewN|apply below_drew1|refine below_set ?_ GE415.out)|exact HB.out)⟩
end Go.Proofs.Ytcbbflemaefeeaa.PT
