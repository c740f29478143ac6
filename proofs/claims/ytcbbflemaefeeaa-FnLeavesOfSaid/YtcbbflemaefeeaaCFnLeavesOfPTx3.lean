/- Words and walks that the law's proof uses: each printed function's contract. Conditions: none beyond the statement's own. -/
import Derived.Test.YtcbbflemaefeeaaCFnLeavesOfPTx0
import Derived.Test.YtcbbflemaefeeaaCFnLeavesOfPTx2
namespace Go.Proofs.Ytcbbflemaefeeaa.PT
open Go.RowKit Go.Proofs.YtcbbflemaefeeaaW.PrintWords Go.Proofs.YtcbbflemaefeeaaW.PrintLast Go.Proofs.YtcbbflemaefeeaaW.PrintMore
attribute [local go_sem] max2_int min2_int max_two min_two max_three min_three max_four min_four   -- for this text's walks alone
set_option linter.unusedVariables false
set_option linter.unusedSimpArgs false
def mB3_ (n b : Nat) : Array Bool := ((List.range n).map fun i => b.testBit i).toArray
theorem sB3_ {α : Type} {l : List α} {i : Nat} {a : α} : l.toArray.setIfInBounds i a = (l.set i a).toArray := List.setIfInBounds_toArray ..
theorem sZ3_ {α : Type} {x : α} {xs : List α} {a : α} : (x :: xs).set 0 a = a :: xs := List.set_cons_zero
theorem sS3_ {α : Type} {x : α} {xs : List α} {n : Nat} {a : α} : (x :: xs).set (n + 1) a = x :: xs.set n a := List.set_cons_succ
mutual
def spec_validTree.l0 : Nat → Int → List (S70) → Option (Bool)
 | 0, _, _ => none
 | k + 1, x3, x113000 => if x3 < (x113000.length : Int) then (if 0 ≤ x3 then ((spec_validName.f k ((rd_T70 x113000 x3).f0)).bind fun t116 => (if t116 = true then (if x3 ≤ (x113000.length : Int) then ((spec_classNamed.f k (x113000.take (x3 : Int).toNat) ((rd_T70 x113000 x3).f0)).bind fun t121 => (if t121 ≥ 0 then (spec_validTree.j1 k x3 true x113000) else (if x3 = 0 then (if ((rd_T70 x113000 x3).f1) = (-1) then (if x3 > 0 then ((spec_inRange.f ((rd_T70 x113000 x3).f1) 0 (wrap64 (x3 - 1))).bind fun t122 => (spec_validTree.j1 k x3 (!t122) x113000)) else (spec_validTree.j1 k x3 false x113000)) else (spec_validTree.j1 k x3 true x113000)) else (if x3 > 0 then ((spec_inRange.f ((rd_T70 x113000 x3).f1) 0 (wrap64 (x3 - 1))).bind fun t123 => (spec_validTree.j1 k x3 (!t123) x113000)) else (spec_validTree.j1 k x3 false x113000))))) else (none)) else (spec_validTree.j1 k x3 true x113000))) else (none)) else ((spec_inRange.f (x113000.length : Int) 1 8).bind fun t113 => (some t113))
def spec_validTree.j1 : Nat → Int → Bool → List (S70) → Option (Bool)
 | 0, _, _, _ => none
 | k + 1, x3, x51, x113000 => if x51 = true then (some false) else (spec_validTree.l0 k (wrap64 (x3 + 1)) x113000)
end
def spec_validTree.f (k : Nat) (l0_0 : List (S70)) : Option (Bool) := spec_validTree.l0 k 0 l0_0
def spec_validTree.T5 : Bool × List (List Nat × List Nat) := (true,[([],[]),([0],[0]),([1],[1]),([2],[2]),([3,2],[3]),([4],[4]),([5,4],[4,5]),([4],[4]),([6,7,4],[4,6,7]),([4],[4]),([9,4],[4,9]),([8,10,4,4],[4,8,10]),([11,4],[4,11]),([4,12],[4,12]),([13,11],[13]),([14],[14]),([15,14],[14,15]),([16,14,14],[14,16]),([17],[17]),([18,17],[17,18]),([19,17],[17,19]),([17,20,14],[14,17,20]),([14,21],[14,21]),([22,17],[22]),([23],[23]),([24,23],[23,24]),([25,23,23],[23,25]),([26],[26]),([27,26],[26,27]),([26],[26]),([29,26],[26,29]),([28,30,26,26],[26,28,30]),([31,26],[26,31]),([26,32,23],[23,26,32]),([23,33],[23,33])])
def spec_validTree.B5 : List Nat := [0,1,3,7,15,31,63,31,255,31,543,2047,4095,8191,16383,32767,65535,131071,262143,524287,1048575,2097151,4194303,8388607,16777215,33554431,67108863,134217727,268435455,134217727,671088639,2147483647,4294967295,8589934591,17179869183]
theorem spec_validTree.tab5 : rtab .any (opsOf Try.f41 5) = spec_validTree.T5 := by kernel_rfl
theorem spec_validTree.bits5 : waitsOk spec_validTree.T5.2 spec_validTree.B5 = true := by kernel_rfl
set_option maxHeartbeats 8000000 in
set_option maxRecDepth 100000 in
theorem spec_validTree.calls (k : Nat) (A0_0 : Option Addr) (c0_0 : Nat) (l0_0 : List (S70)) (r : Bool) (w : World) (hr0_0 : Kd.C k70 w A0_0 l0_0.length l0_0) (hc0_0 : l0_0.length ≤ c0_0) (h : spec_validTree.f k l0_0 = some r) :
  Calls Try.prog 41 #[.agg #[.slice A0_0 l0_0.length c0_0]] w fun e w' => e = .returned (.bool r) ∧ Below w.heap.size w w' := by
 have hu31 := Try.underlying31
 have hu70 := Try.underlying70
 have HR0_0 := Aside0.mk hr0_0
 have HC0_0 := Aside0.mk hc0_0
 clear hr0_0 hc0_0
 have HB := Aside0.mk (Below.refl w.heap.size w)
 have H : (spec_validTree.l0 k 0 l0_0) = some r := h
 clear h
 have H' := Aside0.mk H
 clear H
 go_enter Try.func41,Try.ntmps41
 go_wp2_with (first|((with_reducible refine gate_dst (N := 1) rfl ?_);refine box_event ?hg (N := 1) ?hd (cs := #[.slice A0_0 l0_0.length c0_0]) (t := 31) ?hr ?_;(case hd => rfl);(case hg => rfl);(case hr => first|(go_simp;done)|(go_simp;rfl));intro gb112 hg w2 hbox hb;have n0_ := Aside0.mk (below_step (by repeat (first|(with_reducible first|exact HB.out|apply below_alloc|apply pw_below_drewN|apply below_drew1)|exact HB.out)) hb);have n1_ := Aside0.mk (hbox);have n2_ := Aside0.mk ((by rw [hg];exact (below_size (by repeat (first|(with_reducible first|exact HB.out|apply below_alloc|apply pw_below_drewN|apply below_drew1)|exact HB.out))) : w.heap.size ≤ gb112));have n3_ := Aside0.mk ((by rw [hg];exact (below_size (by repeat (first|(with_reducible first|exact HB.out|apply below_alloc|apply pw_below_drewN|apply below_drew1)|exact HB.out))) : w.heap.size ≤ gb112));clear HB;have HB := n0_;have BK112 := n1_;have GW112 := n2_;have GE112 := n3_;clear n0_ n1_ n2_ n3_;clear hb hbox hg))
 go_loopg [3] k (fun kq v3 w' => ∃ (x3_1 : Int),v3 = .int .i64 x3_1 ∧ Aside0 (spec_validTree.l0 kq x3_1 l0_0 = some r) ∧ Aside0 (kq ≤ k) ∧ Aside0 (w'.heap[gb112]? = some (.cells #[(.slice A0_0 l0_0.length c0_0)] 31 (0,0))) ∧ Aside0 (Below w.heap.size w w'))
 case atStart => exact ⟨(0),(by first|rfl|(simp;done)|(simp [*];done)),H',⟨Nat.le_refl _⟩,⟨by (with_reducible repeat (first|refine blk_drewN ?_ _|refine blk_drew ?_|refine blk_alloc ?_ _));exact BK112.out⟩,⟨by repeat (first|(with_reducible first|exact HB.out|apply below_alloc|apply pw_below_drewN|apply below_drew1|refine below_set ?_ GE112.out)|exact HB.out)⟩⟩
 case round =>
  clear H'
  try clear p2
  obtain ⟨x3_1,rfl,HA,HK1,BK112,HB⟩ := hrel
  cases gk with
  | zero => exact absurd HA.out (by simp [spec_validTree.l0])
  | succ k1 =>
   have H := HA.out
   clear HA
   simp only [spec_validTree.l0] at H
   by_cases c3 : x3_1 < (l0_0.length : Int)
   ·rw [if_pos c3] at H
    have c3b0 : decide (x3_1 < (l0_0.length : Int)) = true := decide_eq_true c3
    clear c3
    by_cases c4 : 0 ≤ x3_1
    ·rw [if_pos c4] at H
     have c4b0 : decide (0 ≤ x3_1) = true := decide_eq_true c4
     clear c4
     have HC5 := Aside0.mk H
     clear H
     have hcz6_0 : wr.cell? ⟨gb112,0,none⟩ = some (.slice A0_0 l0_0.length c0_0) := (blk_cell BK112.out 0).trans rfl
     have hfz6_0 := blk_frozen BK112.out 0
     have p114 : 0 ≤ (x3_1 : Int) := of_decide_eq_true (by first|(with_reducible assumption)|assumption)
     have q114 : x3_1 < (l0_0.length : Int) := of_decide_eq_true (by first|(with_reducible assumption)|assumption)
     obtain ⟨ad114,e114,hx114_0,hx114_1⟩ := at_T70 HR0_0.out x3_1 p114 q114
     cases e114
     replace hx114_0 := (HB.out.cell (World.block_lt_of_cell? w _ hx114_0)).trans hx114_0
     replace hx114_1 := (HB.out.cell (World.block_lt_of_cell? w _ hx114_1)).trans hx114_1
     replace p114 := eq_true p114
     replace q114 := eq_true q114
     go_upto_region 5 with (first|((with_reducible refine gate_dst (N := 4) rfl ?_);refine box_event ?hg (N := 4) ?hd (cs := #[.string (⟨#[]⟩ : ByteArray),.int .i64 0]) (t := 70) ?hr ?_;(case hd => rfl);(case hg => rfl);(case hr => first|(go_simp;done)|(go_simp;rfl));intro gb115 hg w7 hbox hb;have n0_ := Aside0.mk (blk_below (g := gb112) (o := .cells #[.slice (some ad114) l0_0.length c0_0] 31 (0,0)) (by (with_reducible repeat (first|refine blk_drewN ?_ _|refine blk_drew ?_|refine blk_alloc ?_ _));exact BK112.out) hb);have n1_ := Aside0.mk (below_step (by repeat (first|(with_reducible first|exact HB.out|apply below_alloc|apply pw_below_drewN|apply below_drew1|refine below_set ?_ GE112.out)|exact HB.out)) hb);have n2_ := Aside0.mk (hbox);have n3_ := Aside0.mk ((by rw [hg];exact (below_size (by repeat (first|(with_reducible first|exact HB.out|apply below_alloc|apply pw_below_drewN|apply below_drew1|refine below_set ?_ GE112.out)|exact HB.out))) : w.heap.size ≤ gb115));have n4_ := Aside0.mk ((by rw [hg];exact (below_size (by repeat (first|(with_reducible first|exact HB.out|apply below_alloc|apply pw_below_drewN|apply below_drew1|refine below_set ?_ GE112.out)|exact HB.out))) : w.heap.size ≤ gb115));have n5_ := Aside0.mk ((by rw [hg];exact Nat.ne_of_lt (blk_lt (g := gb112) (o := .cells #[.slice (some ad114) l0_0.length c0_0] 31 (0,0)) (by (with_reducible repeat (first|refine blk_drewN ?_ _|refine blk_drew ?_|refine blk_alloc ?_ _));exact BK112.out)) : gb112 ≠ gb115));have n6_ := Aside0.mk ((by rw [hg];exact Nat.ne_of_gt (blk_lt (g := gb112) (o := .cells #[.slice (some ad114) l0_0.length c0_0] 31 (0,0)) (by (with_reducible repeat (first|refine blk_drewN ?_ _|refine blk_drew ?_|refine blk_alloc ?_ _));exact BK112.out)) : gb115 ≠ gb112));clear BK112;clear HB;have BK112 := n0_;have HB := n1_;have BK115 := n2_;have GW115 := n3_;have GE115 := n4_;have NB112_115 := n5_;have NB115_112 := n6_;clear n0_ n1_ n2_ n3_ n4_ n5_ n6_;clear hb hbox hg;have hnb8 := NB115_112.out;have hnc8 := NB112_115.out;have hcz9_0 : w7.cell? ⟨gb115,0,none⟩ = some (.string (⟨#[]⟩ : ByteArray)) := (blk_cell BK115.out 0).trans rfl;have hcz9_1 : w7.cell? ⟨gb115,1,none⟩ = some (.int .i64 0) := (blk_cell BK115.out 1).trans rfl;have hfz9_0 := blk_frozen BK115.out 0;have hfz9_1 := blk_frozen BK115.out 1))
     (try simp only [Act.put,sB3_,sZ3_,sS3_])
     go_cut [51] (fun v51 wc => ∃ (kq : Nat) (x51_4 : Bool),v51 = .bool x51_4 ∧ Aside0 (spec_validTree.j1 kq x3_1 x51_4 l0_0 = some r) ∧ Aside0 (kq ≤ k1) ∧ Aside0 (wc.heap[gb112]? = some (.cells #[(.slice (some ad114) l0_0.length c0_0)] 31 (0,0))) ∧ Aside0 (wc.heap[gb115]? = some (.cells #[.string ((rd_T70 l0_0 x3_1).f0),.int .i64 ((rd_T70 l0_0 x3_1).f1)] 70 (0,0))) ∧ Aside0 (Below w.heap.size w wc))
     case first =>
      have H := HC5.out
      clear HC5
      replace H := Option.bind_eq_some_iff.mp H
      obtain ⟨t116,A100,H⟩ := H
      replace H : (if t116 = true then (if x3_1 ≤ (l0_0.length : Int) then ((spec_classNamed.f k1 (l0_0.take (x3_1 : Int).toNat) ((rd_T70 l0_0 x3_1).f0)).bind fun t121 => (if t121 ≥ 0 then (spec_validTree.j1 k1 x3_1 true l0_0) else (if x3_1 = 0 then (if ((rd_T70 l0_0 x3_1).f1) = (-1) then (if x3_1 > 0 then ((spec_inRange.f ((rd_T70 l0_0 x3_1).f1) 0 (wrap64 (x3_1 - 1))).bind fun t122 => (spec_validTree.j1 k1 x3_1 (!t122) l0_0)) else (spec_validTree.j1 k1 x3_1 false l0_0)) else (spec_validTree.j1 k1 x3_1 true l0_0)) else (if x3_1 > 0 then ((spec_inRange.f ((rd_T70 l0_0 x3_1).f1) 0 (wrap64 (x3_1 - 1))).bind fun t123 => (spec_validTree.j1 k1 x3_1 (!t123) l0_0)) else (spec_validTree.j1 k1 x3_1 false l0_0))))) else (none)) else (spec_validTree.j1 k1 x3_1 true l0_0)) = some r := H
      have A10 := Aside0.mk A100
      clear A100
      by_cases c11 : t116 = true
      ·subst c11
       have H1 : (if x3_1 ≤ (l0_0.length : Int) then ((spec_classNamed.f k1 (l0_0.take (x3_1 : Int).toNat) ((rd_T70 l0_0 x3_1).f0)).bind fun t121 => (if t121 ≥ 0 then (spec_validTree.j1 k1 x3_1 true l0_0) else (if x3_1 = 0 then (if ((rd_T70 l0_0 x3_1).f1) = (-1) then (if x3_1 > 0 then ((spec_inRange.f ((rd_T70 l0_0 x3_1).f1) 0 (wrap64 (x3_1 - 1))).bind fun t122 => (spec_validTree.j1 k1 x3_1 (!t122) l0_0)) else (spec_validTree.j1 k1 x3_1 false l0_0)) else (spec_validTree.j1 k1 x3_1 true l0_0)) else (if x3_1 > 0 then ((spec_inRange.f ((rd_T70 l0_0 x3_1).f1) 0 (wrap64 (x3_1 - 1))).bind fun t123 => (spec_validTree.j1 k1 x3_1 (!t123) l0_0)) else (spec_validTree.j1 k1 x3_1 false l0_0))))) else (none)) = some r := by rw [if_pos rfl] at H;exact H
       clear H
       have H := H1
       clear H1
       have c12b0 := eq_true (of_decide_eq_true (by first|(with_reducible assumption)|assumption) : 0 ≤ x3_1)
       by_cases c13 : x3_1 ≤ (l0_0.length : Int)
       ·rw [if_pos c13] at H
        have c13b0 := eq_true c13
        have c13b1 : decide (x3_1 ≤ (l0_0.length : Int)) = true := decide_eq_true c13
        clear c13
        obtain ⟨y117,hy117⟩ : ∃ y_ : List (S70),y_ = (l0_0.take (x3_1 : Int).toNat) := ⟨_,rfl⟩
        replace H : ((spec_classNamed.f k1 y117 ((rd_T70 l0_0 x3_1).f0)).bind fun t121 => (if t121 ≥ 0 then (spec_validTree.j1 k1 x3_1 true l0_0) else (if x3_1 = 0 then (if ((rd_T70 l0_0 x3_1).f1) = (-1) then (if x3_1 > 0 then ((spec_inRange.f ((rd_T70 l0_0 x3_1).f1) 0 (wrap64 (x3_1 - 1))).bind fun t122 => (spec_validTree.j1 k1 x3_1 (!t122) l0_0)) else (spec_validTree.j1 k1 x3_1 false l0_0)) else (spec_validTree.j1 k1 x3_1 true l0_0)) else (if x3_1 > 0 then ((spec_inRange.f ((rd_T70 l0_0 x3_1).f1) 0 (wrap64 (x3_1 - 1))).bind fun t123 => (spec_validTree.j1 k1 x3_1 (!t123) l0_0)) else (spec_validTree.j1 k1 x3_1 false l0_0))))) = some r := by first|(rw [hy117];with_reducible exact H)|(have H2_ := (Option.bind_some _ _).symm.trans H;rw [hy117];with_reducible exact H2_)|(have H2_ := (Option.bind_some _ _).symm.trans H;with_reducible exact H2_)|with_reducible exact H|(rw [hy117];exact H)|exact H
        have Ny117 := Aside0.mk hy117
        clear hy117
        replace H := Option.bind_eq_some_iff.mp H
        obtain ⟨t121,A140,H⟩ := H
        replace H : (if t121 ≥ 0 then (spec_validTree.j1 k1 x3_1 true l0_0) else (if x3_1 = 0 then (if ((rd_T70 l0_0 x3_1).f1) = (-1) then (if x3_1 > 0 then ((spec_inRange.f ((rd_T70 l0_0 x3_1).f1) 0 (wrap64 (x3_1 - 1))).bind fun t122 => (spec_validTree.j1 k1 x3_1 (!t122) l0_0)) else (spec_validTree.j1 k1 x3_1 false l0_0)) else (spec_validTree.j1 k1 x3_1 true l0_0)) else (if x3_1 > 0 then ((spec_inRange.f ((rd_T70 l0_0 x3_1).f1) 0 (wrap64 (x3_1 - 1))).bind fun t123 => (spec_validTree.j1 k1 x3_1 (!t123) l0_0)) else (spec_validTree.j1 k1 x3_1 false l0_0)))) = some r := H
        have A14 := Aside0.mk A140
        clear A140
        by_cases c15 : t121 ≥ 0
        ·rw [if_pos c15] at H
         have c15b0 : decide (0 ≤ t121) = true := decide_eq_true c15
         clear c15
         (first|rw [c15b0]|(simp only [i64_w,i32_w];rw [c15b0])|skip)
         have H' := Aside0.mk H
         clear H
         try go_wp2
         have n0_ : Aside0 (((w7.setCell ⟨gb115,0,none⟩ (.string ((rd_T70 l0_0 x3_1).f0))).setCell ⟨gb115,1,none⟩ (.int .i64 ((rd_T70 l0_0 x3_1).f1))).heap[gb112]? = some (.cells #[.slice (some ad114) l0_0.length c0_0] 31 (0,0))) := ⟨by (with_reducible repeat (first|refine blk_drewN ?_ _|refine blk_drew ?_|refine blk_alloc ?_ _));refine blk_far ?_ NB112_115.out _;(with_reducible repeat (first|refine blk_drewN ?_ _|refine blk_drew ?_|refine blk_alloc ?_ _));refine blk_far ?_ NB112_115.out _;(with_reducible repeat (first|refine blk_drewN ?_ _|refine blk_drew ?_|refine blk_alloc ?_ _));exact BK112.out⟩
         have n1_ : Aside0 (((w7.setCell ⟨gb115,0,none⟩ (.string ((rd_T70 l0_0 x3_1).f0))).setCell ⟨gb115,1,none⟩ (.int .i64 ((rd_T70 l0_0 x3_1).f1))).heap[gb115]? = some (.cells #[.string ((rd_T70 l0_0 x3_1).f0),.int .i64 ((rd_T70 l0_0 x3_1).f1)] 70 (0,0))) := ⟨by (with_reducible repeat (first|refine blk_drewN ?_ _|refine blk_drew ?_|refine blk_alloc ?_ _));refine blk_put (cs := #[.string ((rd_T70 l0_0 x3_1).f0),.int .i64 0]) ?_ 1 _ rfl;(with_reducible repeat (first|refine blk_drewN ?_ _|refine blk_drew ?_|refine blk_alloc ?_ _));refine blk_put (cs := #[.string (⟨#[]⟩ : ByteArray),.int .i64 0]) ?_ 0 _ rfl;(with_reducible repeat (first|refine blk_drewN ?_ _|refine blk_drew ?_|refine blk_alloc ?_ _));exact BK115.out⟩
         have n2_ : Aside0 (Below w.heap.size w ((w7.setCell ⟨gb115,0,none⟩ (.string ((rd_T70 l0_0 x3_1).f0))).setCell ⟨gb115,1,none⟩ (.int .i64 ((rd_T70 l0_0 x3_1).f1)))) := ⟨by repeat (first|(with_reducible first|exact HB.out|apply below_alloc|apply pw_below_drewN|apply below_drew1|refine below_set ?_ GE112.out|refine below_set ?_ GE115.out)|exact HB.out)⟩
         (try clear BK112)
         (try clear BK115)
         (try clear HB)
         generalize ((w7.setCell ⟨gb115,0,none⟩ (.string ((rd_T70 l0_0 x3_1).f0))).setCell ⟨gb115,1,none⟩ (.int .i64 ((rd_T70 l0_0 x3_1).f1))) = w16 at n0_ n1_ n2_ ⊢
         have BK112 := n0_
         have BK115 := n1_
         have HB := n2_
         clear n0_ n1_ n2_
         have n0_ := Aside0.mk (blk_drew BK112.out)
         have n1_ := Aside0.mk (blk_drew BK115.out)
         have n2_ := Aside0.mk (below_drew1 HB.out)
         clear BK112
         clear BK115
         clear HB
         have BK112 := n0_
         have BK115 := n1_
         have HB := n2_
         clear n0_ n1_ n2_
         refine start_ (n := 35) (S := fun w' => w'.cell? ⟨gb115,0,none⟩ = some (.string ((rd_T70 l0_0 x3_1).f0)) ∧ w'.cell? ⟨gb115,1,none⟩ = some (.int .i64 ((rd_T70 l0_0 x3_1).f1)) ∧ w'.cell? ⟨gb112,0,none⟩ = some (.slice (some ad114) l0_0.length c0_0)) (ds := []) #[false,false,false,false,false,false,false,false,false,false,false,false,false,false,false,false,false,false,false,false,false,false,false,false,false,false,false,false,false,false,false,false,false,false,false] (by kernel_rfl) rfl rfl ⟨(blk_cell BK115.out 0).trans rfl,(blk_cell BK115.out 1).trans rfl,(blk_cell BK112.out 0).trans rfl⟩ (fun hHeld => ?_);refine with_tabW spec_validTree.tab5 spec_validTree.bits5 (fun HT_ HW_ => ?_)
         generalize w16.drew = w17 at BK112 BK115 HB hHeld ⊢
         refine pure_ (i := 0) (N := some 17) (v := ?_) (a' := ?_) (mB3_ 35 1) rfl rfl (any_of HT_.out (by kernel_rfl)) (fun _ _ _ h => h) (Or.inl ⟨by rfl,?_⟩) ?_ ?_;rotate_left
         ·intro w'
          go_simp
          with_reducible rfl
         rotate_left
         ·simp only [Act.put,sB3_,sZ3_,sS3_,i64_w,i32_w]
          rfl
         refine take_ (i := 1) (N := some 18) (v := ?_) (a' := ?_) (mB3_ 35 3) rfl rfl (take_ofW HT_.out HW_.out (by kernel_rfl)) (fun _ _ _ h => h) (Or.inl ⟨by rfl,?_⟩) hHeld ?_ ?_;rotate_left
         ·rintro w' ⟨s0,s1,s2⟩
          go_simp
          with_reducible rfl
         rotate_left
         ·simp only [Act.put,sB3_,sZ3_,sS3_,i64_w,i32_w]
          rfl
         refine one_ (i := 2) (N := some 19) (mB3_ 35 7) rfl rfl (one_of HT_.out (by kernel_rfl)) (by decide) (fun K hK => ?_)
         refine goes_ Try.func57 (by kernel_rfl) rfl #[.string ((rd_T70 l0_0 x3_1).f0)] (by rfl) rfl rfl (by (try simp only [List.map_toArray,List.map_cons,List.map_nil]);first|done|rfl|(simp only [List.length_drop,List.length_take];rfl)) ?_
         with_reducible refine (spec_validName.calls k1 ((rd_T70 l0_0 x3_1).f0) true _ A10.out).mono ?_
         rintro e w' ⟨rfl,⟨nd,rfl⟩⟩
         refine ⟨_,rfl,?_⟩
         have q18 : (x3_1 : Int) ≤ ((l0_0.length : Int) : Int) := of_decide_eq_true (by first|(with_reducible assumption)|assumption)
         obtain ⟨i018,hi018,_,hsz18,_⟩ := info_parts info70
         have hroom18 : l0_0.length ≤ c0_0 := HC0_0.out
         have hC18 : Kd.C k70 _ (some ad114) l0_0.length l0_0 := HR0_0.out
         have hcut18 := cut_to (P := Try.prog) 29 70 .i64 Try.underlying29 hi018 (some ad114) l0_0.length c0_0 x3_1 (of_decide_eq_true (by first|(with_reducible assumption)|assumption)) q18 hroom18
         have hr18 := Kd.C_take (m := (x3_1 : Int).toNat) hC18 (by omega)
         have hy18 : y117.length = (x3_1 : Int).toNat := (by rw [Ny117.out,List.length_take];omega)
         rw [← Ny117.out] at hr18
         rw [← hy18] at hcut18
         have HR120 := Aside0.mk hr18
         have HC120 := Aside0.mk (show y117.length ≤ c0_0 from by omega)
         clear hr18 hC18 hroom18 hi018 hsz18
         have KY18 := Aside0.mk hy18
         clear hy18
         replace q18 := eq_true q18
         refine hK.out _ _ ⟨(blk_cell BK115.out 0).trans rfl,(blk_cell BK115.out 1).trans rfl,(blk_cell BK112.out 0).trans rfl⟩ (fun hHeld => ?_)
         clear hK K
         refine norm_ (a' := ?_) ?_ ?_;rotate_left
         ·show Act.put _ (some 19) _ = _
          simp only [Act.put,sB3_,sZ3_,sS3_,i64_w,i32_w]
          rfl
         refine pure_ (i := 3) (N := some 20) (v := ?_) (a' := ?_) (mB3_ 35 15) rfl rfl (any_of HT_.out (by kernel_rfl)) (fun _ _ _ h => h) (Or.inl ⟨by rfl,?_⟩) ?_ ?_;rotate_left
         ·intro w'
          go_simp
          with_reducible rfl
         rotate_left
         ·simp only [Act.put,sB3_,sZ3_,sS3_,i64_w,i32_w]
          rfl
         refine pure_ (i := 4) (N := some 21) (v := ?_) (a' := ?_) (mB3_ 35 31) rfl rfl (any_of HT_.out (by kernel_rfl)) (fun _ _ _ h => h) (Or.inl ⟨by rfl,?_⟩) ?_ ?_;rotate_left
         ·intro w'
          go_simp
          with_reducible rfl
         rotate_left
         ·simp only [Act.put,sB3_,sZ3_,sS3_,i64_w,i32_w]
          rfl
         refine pure_ (i := 5) (N := some 22) (v := ?_) (a' := ?_) (mB3_ 35 63) rfl rfl (any_of HT_.out (by kernel_rfl)) (fun _ _ _ h => h) (Or.inl ⟨by rfl,?_⟩) ?_ ?_;rotate_left
         ·intro w'
          go_simp
          with_reducible rfl
         rotate_left
         ·simp only [Act.put,sB3_,sZ3_,sS3_,i64_w,i32_w]
          rfl
         refine pure_ (i := 7) (N := some 24) (v := ?_) (a' := ?_) (mB3_ 35 191) rfl rfl (any_of HT_.out (by kernel_rfl)) (fun _ _ _ h => h) (Or.inl ⟨by rfl,?_⟩) ?_ ?_;rotate_left
         ·intro w'
          go_simp
          with_reducible rfl
         rotate_left
         ·simp only [Act.put,sB3_,sZ3_,sS3_,i64_w,i32_w]
          rfl
         refine pure_ (i := 9) (N := some 26) (v := ?_) (a' := ?_) (mB3_ 35 703) rfl rfl (any_of HT_.out (by kernel_rfl)) (fun _ _ _ h => h) (Or.inl ⟨by rfl,?_⟩) ?_ ?_;rotate_left
         ·intro w'
          go_simp
          with_reducible rfl
         rotate_left
         ·simp only [Act.put,sB3_,sZ3_,sS3_,i64_w,i32_w]
          rfl
         refine take_ (i := 6) (N := some 23) (v := ?_) (a' := ?_) (mB3_ 35 767) rfl rfl (take_ofW HT_.out HW_.out (by kernel_rfl)) (fun _ _ _ h => h) (Or.inl ⟨by rfl,?_⟩) hHeld ?_ ?_;rotate_left
         ·rintro w' ⟨s0,s1,s2⟩
          go_simp
          with_reducible rfl
         rotate_left
         ·simp only [Act.put,sB3_,sZ3_,sS3_,i64_w,i32_w]
          rfl
         refine pure_ (i := 8) (N := some 25) (v := ?_) (a' := ?_) (mB3_ 35 1023) rfl rfl (any_of HT_.out (by kernel_rfl)) (fun _ _ _ h => h) (Or.inl ⟨by rfl,?_⟩) ?_ ?_;rotate_left
         ·intro w'
          go_simp
          with_reducible rfl
         rotate_left
         ·simp only [Act.put,sB3_,sZ3_,sS3_,i64_w,i32_w]
          rfl
         refine take_ (i := 10) (N := some 27) (v := ?_) (a' := ?_) (mB3_ 35 2047) rfl rfl (take_ofW HT_.out HW_.out (by kernel_rfl)) (fun _ _ _ h => h) (Or.inl ⟨by rfl,?_⟩) hHeld ?_ ?_;rotate_left
         ·rintro w' ⟨s0,s1,s2⟩
          go_simp
          with_reducible rfl
         rotate_left
         ·simp only [Act.put,sB3_,sZ3_,sS3_,i64_w,i32_w]
          rfl
         refine one_ (i := 11) (N := some 28) (mB3_ 35 4095) rfl rfl (one_of HT_.out (by kernel_rfl)) (by decide) (fun K hK => ?_)
         refine goes_ Try.func58 (by kernel_rfl) rfl #[.slice (some ad114) y117.length c0_0,.string ((rd_T70 l0_0 x3_1).f0)] (by rfl) rfl rfl (by (try simp only [List.map_toArray,List.map_cons,List.map_nil]);first|done|rfl|(simp only [List.length_drop,List.length_take];rfl)) ?_
         with_reducible refine (spec_classNamed.calls k1 _ _ y117 ((rd_T70 l0_0 x3_1).f0) t121 _ ?side1 ?side2 A14.out).mono ?_
         (case side1 => repeat (first|exact (Kd.C_below HR120.out (by repeat (first|(with_reducible first|exact HB.out|apply below_alloc|apply pw_below_drewN|apply below_drew1|refine below_set ?_ GE112.out|refine below_set ?_ GE115.out)|exact HB.out)))|(with_reducible refine Kd.C_alloc ?_ _)|(with_reducible refine Kd.C_drewN ?_ _)|(with_reducible refine Kd.C_drew ?_)))
         (case side2 => exact HC120.out)
         rintro e w' ⟨rfl,⟨nd,rfl⟩⟩
         refine ⟨_,rfl,?_⟩
         refine hK.out _ _ ⟨(blk_cell BK115.out 0).trans rfl,(blk_cell BK115.out 1).trans rfl,(blk_cell BK112.out 0).trans rfl⟩ (fun hHeld => ?_)
         clear hK K
         refine norm_ (a' := ?_) ?_ ?_;rotate_left
         ·show Act.put _ (some 28) _ = _
          simp only [Act.put,sB3_,sZ3_,sS3_,i64_w,i32_w]
          rfl
         refine pure_ (i := 12) (N := some 29) (v := ?_) (a' := ?_) (mB3_ 35 8191) rfl rfl (any_of HT_.out (by kernel_rfl)) (fun _ _ _ h => h) (Or.inl ⟨by rfl,?_⟩) ?_ ?_;rotate_left
         ·intro w'
          go_simp
          with_reducible rfl
         rotate_left
         ·simp only [Act.put,sB3_,sZ3_,sS3_,i64_w,i32_w]
          rfl
         refine pure_ (i := 13) (N := some 30) (v := ?_) (a' := ?_) (mB3_ 35 16383) rfl rfl (any_of HT_.out (by kernel_rfl)) (fun _ _ _ h => h) (Or.inl ⟨by rfl,?_⟩) ?_ ?_;rotate_left
         ·intro w'
          go_simp
          with_reducible rfl
         rotate_left
         ·simp only [Act.put,sB3_,sZ3_,sS3_,i64_w,i32_w]
          rfl
         refine pure_ (i := 14) (N := some 31) (v := ?_) (a' := ?_) (mB3_ 35 32767) rfl rfl (any_of HT_.out (by kernel_rfl)) (fun _ _ _ h => h) (Or.inl ⟨by rfl,?_⟩) ?_ ?_;rotate_left
         ·intro w'
          go_simp
          with_reducible rfl
         rotate_left
         ·simp only [Act.put,sB3_,sZ3_,sS3_,i64_w,i32_w]
          rfl
         refine pure_ (i := 15) (N := some 32) (v := undef) (a' := ?_) (mB3_ 35 65535) rfl rfl (any_of HT_.out (by kernel_rfl)) (fun _ _ _ h => h) (Or.inr ⟨by rfl,rfl⟩) ?_ ?_;rotate_left
         ·simp only [Act.put,sB3_,sZ3_,sS3_,i64_w,i32_w]
          rfl
         refine pure_ (i := 16) (N := some 33) (v := undef) (a' := ?_) (mB3_ 35 131071) rfl rfl (any_of HT_.out (by kernel_rfl)) (fun _ _ _ h => h) (Or.inr ⟨by rfl,rfl⟩) ?_ ?_;rotate_left
         ·simp only [Act.put,sB3_,sZ3_,sS3_,i64_w,i32_w]
          rfl
         refine pure_ (i := 17) (N := some 34) (v := undef) (a' := ?_) (mB3_ 35 262143) rfl rfl (any_of HT_.out (by kernel_rfl)) (fun _ _ _ h => h) (Or.inr ⟨by rfl,rfl⟩) ?_ ?_;rotate_left
         ·simp only [Act.put,sB3_,sZ3_,sS3_,i64_w,i32_w]
          rfl
         refine pure_ (i := 18) (N := some 35) (v := undef) (a' := ?_) (mB3_ 35 524287) rfl rfl (any_of HT_.out (by kernel_rfl)) (fun _ _ _ h => h) (Or.inr ⟨by rfl,rfl⟩) ?_ ?_;rotate_left
         ·simp only [Act.put,sB3_,sZ3_,sS3_,i64_w,i32_w]
          rfl
         refine pure_ (i := 19) (N := some 36) (v := undef) (a' := ?_) (mB3_ 35 1048575) rfl rfl (any_of HT_.out (by kernel_rfl)) (fun _ _ _ h => h) (Or.inr ⟨by rfl,rfl⟩) ?_ ?_;rotate_left
         ·simp only [Act.put,sB3_,sZ3_,sS3_,i64_w,i32_w]
          rfl
         refine pure_ (i := 20) (N := some 37) (v := undef) (a' := ?_) (mB3_ 35 2097151) rfl rfl (any_of HT_.out (by kernel_rfl)) (fun _ _ _ h => h) (Or.inr ⟨by rfl,rfl⟩) ?_ ?_;rotate_left
         ·simp only [Act.put,sB3_,sZ3_,sS3_,i64_w,i32_w]
          rfl
         refine pure_ (i := 21) (N := some 38) (v := undef) (a' := ?_) (mB3_ 35 4194303) rfl rfl (any_of HT_.out (by kernel_rfl)) (fun _ _ _ h => h) (Or.inr ⟨by rfl,rfl⟩) ?_ ?_;rotate_left
         ·simp only [Act.put,sB3_,sZ3_,sS3_,i64_w,i32_w]
          rfl
         refine pure_ (i := 22) (N := some 39) (v := ?_) (a' := ?_) (mB3_ 35 8388607) rfl rfl (any_of HT_.out (by kernel_rfl)) (fun _ _ _ h => h) (Or.inl ⟨by rfl,?_⟩) ?_ ?_;rotate_left
         ·intro w'
          go_simp
          with_reducible rfl
         rotate_left
         ·simp only [Act.put,sB3_,sZ3_,sS3_,i64_w,i32_w]
          rfl
         refine pure_ (i := 23) (N := some 40) (v := ?_) (a' := ?_) (mB3_ 35 16777215) rfl rfl (any_of HT_.out (by kernel_rfl)) (fun _ _ _ h => h) (Or.inl ⟨by rfl,?_⟩) ?_ ?_;rotate_left
         ·intro w'
          go_simp
          with_reducible rfl
         rotate_left
         ·simp only [Act.put,sB3_,sZ3_,sS3_,i64_w,i32_w]
          rfl
         refine pure_ (i := 24) (N := some 41) (v := undef) (a' := ?_) (mB3_ 35 33554431) rfl rfl (any_of HT_.out (by kernel_rfl)) (fun _ _ _ h => h) (Or.inr ⟨by rfl,rfl⟩) ?_ ?_;rotate_left
         ·simp only [Act.put,sB3_,sZ3_,sS3_,i64_w,i32_w]
          rfl
         refine pure_ (i := 25) (N := some 42) (v := undef) (a' := ?_) (mB3_ 35 67108863) rfl rfl (any_of HT_.out (by kernel_rfl)) (fun _ _ _ h => h) (Or.inr ⟨by rfl,rfl⟩) ?_ ?_;rotate_left
         ·simp only [Act.put,sB3_,sZ3_,sS3_,i64_w,i32_w]
          rfl
         refine pure_ (i := 26) (N := some 43) (v := undef) (a' := ?_) (mB3_ 35 134217727) rfl rfl (any_of HT_.out (by kernel_rfl)) (fun _ _ _ h => h) (Or.inr ⟨by rfl,rfl⟩) ?_ ?_;rotate_left
         ·simp only [Act.put,sB3_,sZ3_,sS3_,i64_w,i32_w]
          rfl
         refine pure_ (i := 27) (N := some 44) (v := undef) (a' := ?_) (mB3_ 35 268435455) rfl rfl (any_of HT_.out (by kernel_rfl)) (fun _ _ _ h => h) (Or.inr ⟨by rfl,rfl⟩) ?_ ?_;rotate_left
         ·simp only [Act.put,sB3_,sZ3_,sS3_,i64_w,i32_w]
          rfl
         refine pure_ (i := 28) (N := some 45) (v := undef) (a' := ?_) (mB3_ 35 536870911) rfl rfl (any_of HT_.out (by kernel_rfl)) (fun _ _ _ h => h) (Or.inr ⟨by rfl,rfl⟩) ?_ ?_;rotate_left
         ·simp only [Act.put,sB3_,sZ3_,sS3_,i64_w,i32_w]
          rfl
         refine pure_ (i := 29) (N := some 46) (v := undef) (a' := ?_) (mB3_ 35 1073741823) rfl rfl (any_of HT_.out (by kernel_rfl)) (fun _ _ _ h => h) (Or.inr ⟨by rfl,rfl⟩) ?_ ?_;rotate_left
         ·simp only [Act.put,sB3_,sZ3_,sS3_,i64_w,i32_w]
          rfl
         refine pure_ (i := 30) (N := some 47) (v := undef) (a' := ?_) (mB3_ 35 2147483647) rfl rfl (any_of HT_.out (by kernel_rfl)) (fun _ _ _ h => h) (Or.inr ⟨by rfl,rfl⟩) ?_ ?_;rotate_left
         ·simp only [Act.put,sB3_,sZ3_,sS3_,i64_w,i32_w]
          rfl
         refine pure_ (i := 31) (N := some 48) (v := undef) (a' := ?_) (mB3_ 35 4294967295) rfl rfl (any_of HT_.out (by kernel_rfl)) (fun _ _ _ h => h) (Or.inr ⟨by rfl,rfl⟩) ?_ ?_;rotate_left
         ·simp only [Act.put,sB3_,sZ3_,sS3_,i64_w,i32_w]
          rfl
         refine pure_ (i := 32) (N := some 49) (v := undef) (a' := ?_) (mB3_ 35 8589934591) rfl rfl (any_of HT_.out (by kernel_rfl)) (fun _ _ _ h => h) (Or.inr ⟨by rfl,rfl⟩) ?_ ?_;rotate_left
         ·simp only [Act.put,sB3_,sZ3_,sS3_,i64_w,i32_w]
          rfl
         refine pure_ (i := 33) (N := some 50) (v := undef) (a' := ?_) (mB3_ 35 17179869183) rfl rfl (any_of HT_.out (by kernel_rfl)) (fun _ _ _ h => h) (Or.inr ⟨by rfl,rfl⟩) ?_ ?_;rotate_left
         ·simp only [Act.put,sB3_,sZ3_,sS3_,i64_w,i32_w]
          rfl
         refine pure_ (i := 34) (N := some 51) (v := ?_) (a' := ?_) (mB3_ 35 34359738367) rfl rfl (any_of HT_.out (by kernel_rfl)) (fun _ _ _ h => h) (Or.inl ⟨by rfl,?_⟩) ?_ ?_;rotate_left
         ·intro w'
          go_simp
          with_reducible rfl
         rotate_left
         ·simp only [Act.put,sB3_,sZ3_,sS3_,i64_w,i32_w]
          rfl
         refine done_ (done_of HT_.out (by kernel_rfl)) ?_
         try go_wp2
         go_meet
         case rel => exact ⟨_,(true),(by first|rfl|(simp;done)|(simp [*];done)),H',⟨by have := HK1.out;first|omega|exact Nat.le_refl _⟩,⟨by (with_reducible repeat (first|refine blk_drewN ?_ _|refine blk_drew ?_|refine blk_alloc ?_ _));exact BK112.out⟩,⟨by (with_reducible repeat (first|refine blk_drewN ?_ _|refine blk_drew ?_|refine blk_alloc ?_ _));exact BK115.out⟩,⟨by repeat (first|(with_reducible first|exact HB.out|apply below_alloc|apply pw_below_drewN|apply below_drew1|refine below_set ?_ GE112.out|refine below_set ?_ GE115.out)|exact HB.out)⟩⟩
        ·rw [if_neg c15] at H
         have c15b0 : decide (0 ≤ t121) = false := decide_eq_false c15
         clear c15
         (first|rw [c15b0]|(simp only [i64_w,i32_w];rw [c15b0])|skip)
         by_cases c19 : x3_1 = 0
         ·rw [if_pos c19] at H
          have c19b0 : (x3_1 == 0) = true := beq_iff_eq.mpr c19
          have c19b1 : (x3_1 != 0) = false := bne_eq_false_iff_eq.mpr c19
          clear c19
          by_cases c20 : ((rd_T70 l0_0 x3_1).f1) = (-1)
          ·rw [if_pos c20] at H
           have c20b0 : (((rd_T70 l0_0 x3_1).f1) == (-1)) = true := beq_iff_eq.mpr c20
           have c20b1 : (((rd_T70 l0_0 x3_1).f1) != (-1)) = false := bne_eq_false_iff_eq.mpr c20
           clear c20
           by_cases c21 : x3_1 > 0
           ·rw [if_pos c21] at H
            have c21b0 : decide (0 < x3_1) = true := decide_eq_true c21
            clear c21
            replace H := Option.bind_eq_some_iff.mp H
            obtain ⟨t122,A220,H⟩ := H
            replace H : (spec_validTree.j1 k1 x3_1 (!t122) l0_0) = some r := H
            have A22 := Aside0.mk A220
            clear A220
            have H' := Aside0.mk H
            clear H
            try go_wp2
            have n0_ : Aside0 (((w7.setCell ⟨gb115,0,none⟩ (.string ((rd_T70 l0_0 x3_1).f0))).setCell ⟨gb115,1,none⟩ (.int .i64 ((rd_T70 l0_0 x3_1).f1))).heap[gb112]? = some (.cells #[.slice (some ad114) l0_0.length c0_0] 31 (0,0))) := ⟨by (with_reducible repeat (first|refine blk_drewN ?_ _|refine blk_drew ?_|refine blk_alloc ?_ _));refine blk_far ?_ NB112_115.out _;(with_reducible repeat (first|refine blk_drewN ?_ _|refine blk_drew ?_|refine blk_alloc ?_ _));refine blk_far ?_ NB112_115.out _;(with_reducible repeat (first|refine blk_drewN ?_ _|refine blk_drew ?_|refine blk_alloc ?_ _));exact BK112.out⟩
            have n1_ : Aside0 (((w7.setCell ⟨gb115,0,none⟩ (.string ((rd_T70 l0_0 x3_1).f0))).setCell ⟨gb115,1,none⟩ (.int .i64 ((rd_T70 l0_0 x3_1).f1))).heap[gb115]? = some (.cells #[.string ((rd_T70 l0_0 x3_1).f0),.int .i64 ((rd_T70 l0_0 x3_1).f1)] 70 (0,0))) := ⟨by (with_reducible repeat (first|refine blk_drewN ?_ _|refine blk_drew ?_|refine blk_alloc ?_ _));refine blk_put (cs := #[.string ((rd_T70 l0_0 x3_1).f0),.int .i64 0]) ?_ 1 _ rfl;(with_reducible repeat (first|refine blk_drewN ?_ _|refine blk_drew ?_|refine blk_alloc ?_ _));refine blk_put (cs := #[.string (⟨#[]⟩ : ByteArray),.int .i64 0]) ?_ 0 _ rfl;(with_reducible repeat (first|refine blk_drewN ?_ _|refine blk_drew ?_|refine blk_alloc ?_ _));exact BK115.out⟩
            have n2_ : Aside0 (Below w.heap.size w ((w7.setCell ⟨gb115,0,none⟩ (.string ((rd_T70 l0_0 x3_1).f0))).setCell ⟨gb115,1,none⟩ (.int .i64 ((rd_T70 l0_0 x3_1).f1)))) := ⟨by repeat (first|(with_reducible first|exact HB.out|apply below_alloc|apply pw_below_drewN|apply below_drew1|refine below_set ?_ GE112.out|refine below_set ?_ GE115.out)|exact HB.out)⟩
            (try clear BK112)
            (try clear BK115)
            (try clear HB)
            generalize ((w7.setCell ⟨gb115,0,none⟩ (.string ((rd_T70 l0_0 x3_1).f0))).setCell ⟨gb115,1,none⟩ (.int .i64 ((rd_T70 l0_0 x3_1).f1))) = w23 at n0_ n1_ n2_ ⊢
            have BK112 := n0_
            have BK115 := n1_
            have HB := n2_
            clear n0_ n1_ n2_
            have n0_ := Aside0.mk (blk_drew BK112.out)
            have n1_ := Aside0.mk (blk_drew BK115.out)
            have n2_ := Aside0.mk (below_drew1 HB.out)
            clear BK112
            clear BK115
            clear HB
            have BK112 := n0_
            have BK115 := n1_
            have HB := n2_
            clear n0_ n1_ n2_
            refine start_ (n := 35) (S := fun w' => w'.cell? ⟨gb115,0,none⟩ = some (.string ((rd_T70 l0_0 x3_1).f0)) ∧ w'.cell? ⟨gb115,1,none⟩ = some (.int .i64 ((rd_T70 l0_0 x3_1).f1)) ∧ w'.cell? ⟨gb112,0,none⟩ = some (.slice (some ad114) l0_0.length c0_0)) (ds := []) #[false,false,false,false,false,false,false,false,false,false,false,false,false,false,false,false,false,false,false,false,false,false,false,false,false,false,false,false,false,false,false,false,false,false,false] (by kernel_rfl) rfl rfl ⟨(blk_cell BK115.out 0).trans rfl,(blk_cell BK115.out 1).trans rfl,(blk_cell BK112.out 0).trans rfl⟩ (fun hHeld => ?_);refine with_tabW spec_validTree.tab5 spec_validTree.bits5 (fun HT_ HW_ => ?_)
            generalize w23.drew = w24 at BK112 BK115 HB hHeld ⊢
            refine pure_ (i := 0) (N := some 17) (v := ?_) (a' := ?_) (mB3_ 35 1) rfl rfl (any_of HT_.out (by kernel_rfl)) (fun _ _ _ h => h) (Or.inl ⟨by rfl,?_⟩) ?_ ?_;rotate_left
            ·intro w'
             go_simp
             with_reducible rfl
            rotate_left
            ·simp only [Act.put,sB3_,sZ3_,sS3_,i64_w,i32_w]
             rfl
            refine take_ (i := 1) (N := some 18) (v := ?_) (a' := ?_) (mB3_ 35 3) rfl rfl (take_ofW HT_.out HW_.out (by kernel_rfl)) (fun _ _ _ h => h) (Or.inl ⟨by rfl,?_⟩) hHeld ?_ ?_;rotate_left
            ·rintro w' ⟨s0,s1,s2⟩
             go_simp
             with_reducible rfl
            rotate_left
            ·simp only [Act.put,sB3_,sZ3_,sS3_,i64_w,i32_w]
             rfl
            refine one_ (i := 2) (N := some 19) (mB3_ 35 7) rfl rfl (one_of HT_.out (by kernel_rfl)) (by decide) (fun K hK => ?_)
            refine goes_ Try.func57 (by kernel_rfl) rfl #[.string ((rd_T70 l0_0 x3_1).f0)] (by rfl) rfl rfl (by (try simp only [List.map_toArray,List.map_cons,List.map_nil]);first|done|rfl|(simp only [List.length_drop,List.length_take];rfl)) ?_
            with_reducible refine (spec_validName.calls k1 ((rd_T70 l0_0 x3_1).f0) true _ A10.out).mono ?_
            rintro e w' ⟨rfl,⟨nd,rfl⟩⟩
            refine ⟨_,rfl,?_⟩
            have q25 : (x3_1 : Int) ≤ ((l0_0.length : Int) : Int) := of_decide_eq_true (by first|(with_reducible assumption)|assumption)
            obtain ⟨i025,hi025,_,hsz25,_⟩ := info_parts info70
            have hroom25 : l0_0.length ≤ c0_0 := HC0_0.out
            have hC25 : Kd.C k70 _ (some ad114) l0_0.length l0_0 := HR0_0.out
            have hcut25 := cut_to (P := Try.prog) 29 70 .i64 Try.underlying29 hi025 (some ad114) l0_0.length c0_0 x3_1 (of_decide_eq_true (by first|(with_reducible assumption)|assumption)) q25 hroom25
            have hr25 := Kd.C_take (m := (x3_1 : Int).toNat) hC25 (by omega)
            have hy25 : y117.length = (x3_1 : Int).toNat := (by rw [Ny117.out,List.length_take];omega)
            rw [← Ny117.out] at hr25
            rw [← hy25] at hcut25
            have HR120 := Aside0.mk hr25
            have HC120 := Aside0.mk (show y117.length ≤ c0_0 from by omega)
            clear hr25 hC25 hroom25 hi025 hsz25
            have KY25 := Aside0.mk hy25
            clear hy25
            replace q25 := eq_true q25
            refine hK.out _ _ ⟨(blk_cell BK115.out 0).trans rfl,(blk_cell BK115.out 1).trans rfl,(blk_cell BK112.out 0).trans rfl⟩ (fun hHeld => ?_)
            clear hK K
            refine norm_ (a' := ?_) ?_ ?_;rotate_left
            ·show Act.put _ (some 19) _ = _
             simp only [Act.put,sB3_,sZ3_,sS3_,i64_w,i32_w]
             rfl
            refine pure_ (i := 3) (N := some 20) (v := ?_) (a' := ?_) (mB3_ 35 15) rfl rfl (any_of HT_.out (by kernel_rfl)) (fun _ _ _ h => h) (Or.inl ⟨by rfl,?_⟩) ?_ ?_;rotate_left
            ·intro w'
             go_simp
             with_reducible rfl
            rotate_left
            ·simp only [Act.put,sB3_,sZ3_,sS3_,i64_w,i32_w]
             rfl
            refine pure_ (i := 4) (N := some 21) (v := ?_) (a' := ?_) (mB3_ 35 31) rfl rfl (any_of HT_.out (by kernel_rfl)) (fun _ _ _ h => h) (Or.inl ⟨by rfl,?_⟩) ?_ ?_;rotate_left
            ·intro w'
             go_simp
             with_reducible rfl
            rotate_left
            ·simp only [Act.put,sB3_,sZ3_,sS3_,i64_w,i32_w]
             rfl
            refine pure_ (i := 5) (N := some 22) (v := ?_) (a' := ?_) (mB3_ 35 63) rfl rfl (any_of HT_.out (by kernel_rfl)) (fun _ _ _ h => h) (Or.inl ⟨by rfl,?_⟩) ?_ ?_;rotate_left
            ·intro w'
             go_simp
             with_reducible rfl
            rotate_left
            ·simp only [Act.put,sB3_,sZ3_,sS3_,i64_w,i32_w]
             rfl
            refine pure_ (i := 7) (N := some 24) (v := ?_) (a' := ?_) (mB3_ 35 191) rfl rfl (any_of HT_.out (by kernel_rfl)) (fun _ _ _ h => h) (Or.inl ⟨by rfl,?_⟩) ?_ ?_;rotate_left
            ·intro w'
             go_simp
             with_reducible rfl
            rotate_left
            ·simp only [Act.put,sB3_,sZ3_,sS3_,i64_w,i32_w]
             rfl
            refine pure_ (i := 9) (N := some 26) (v := ?_) (a' := ?_) (mB3_ 35 703) rfl rfl (any_of HT_.out (by kernel_rfl)) (fun _ _ _ h => h) (Or.inl ⟨by rfl,?_⟩) ?_ ?_;rotate_left
            ·intro w'
             go_simp
             with_reducible rfl
            rotate_left
            ·simp only [Act.put,sB3_,sZ3_,sS3_,i64_w,i32_w]
             rfl
            refine take_ (i := 6) (N := some 23) (v := ?_) (a' := ?_) (mB3_ 35 767) rfl rfl (take_ofW HT_.out HW_.out (by kernel_rfl)) (fun _ _ _ h => h) (Or.inl ⟨by rfl,?_⟩) hHeld ?_ ?_;rotate_left
            ·rintro w' ⟨s0,s1,s2⟩
             go_simp
             with_reducible rfl
            rotate_left
            ·simp only [Act.put,sB3_,sZ3_,sS3_,i64_w,i32_w]
             rfl
            refine pure_ (i := 8) (N := some 25) (v := ?_) (a' := ?_) (mB3_ 35 1023) rfl rfl (any_of HT_.out (by kernel_rfl)) (fun _ _ _ h => h) (Or.inl ⟨by rfl,?_⟩) ?_ ?_;rotate_left
            ·intro w'
             go_simp
             with_reducible rfl
            rotate_left
            ·simp only [Act.put,sB3_,sZ3_,sS3_,i64_w,i32_w]
             rfl
            refine take_ (i := 10) (N := some 27) (v := ?_) (a' := ?_) (mB3_ 35 2047) rfl rfl (take_ofW HT_.out HW_.out (by kernel_rfl)) (fun _ _ _ h => h) (Or.inl ⟨by rfl,?_⟩) hHeld ?_ ?_;rotate_left
            ·rintro w' ⟨s0,s1,s2⟩
             go_simp
             with_reducible rfl
            rotate_left
            ·simp only [Act.put,sB3_,sZ3_,sS3_,i64_w,i32_w]
             rfl
            refine one_ (i := 11) (N := some 28) (mB3_ 35 4095) rfl rfl (one_of HT_.out (by kernel_rfl)) (by decide) (fun K hK => ?_)
            refine goes_ Try.func58 (by kernel_rfl) rfl #[.slice (some ad114) y117.length c0_0,.string ((rd_T70 l0_0 x3_1).f0)] (by rfl) rfl rfl (by (try simp only [List.map_toArray,List.map_cons,List.map_nil]);first|done|rfl|(simp only [List.length_drop,List.length_take];rfl)) ?_
            with_reducible refine (spec_classNamed.calls k1 _ _ y117 ((rd_T70 l0_0 x3_1).f0) t121 _ ?side1 ?side2 A14.out).mono ?_
            (case side1 => repeat (first|exact (Kd.C_below HR120.out (by repeat (first|(with_reducible first|exact HB.out|apply below_alloc|apply pw_below_drewN|apply below_drew1|refine below_set ?_ GE112.out|refine below_set ?_ GE115.out)|exact HB.out)))|(with_reducible refine Kd.C_alloc ?_ _)|(with_reducible refine Kd.C_drewN ?_ _)|(with_reducible refine Kd.C_drew ?_)))
            (case side2 => exact HC120.out)
            rintro e w' ⟨rfl,⟨nd,rfl⟩⟩
            refine ⟨_,rfl,?_⟩
            refine hK.out _ _ ⟨(blk_cell BK115.out 0).trans rfl,(blk_cell BK115.out 1).trans rfl,(blk_cell BK112.out 0).trans rfl⟩ (fun hHeld => ?_)
            clear hK K
            refine norm_ (a' := ?_) ?_ ?_;rotate_left
            ·show Act.put _ (some 28) _ = _
             simp only [Act.put,sB3_,sZ3_,sS3_,i64_w,i32_w]
             rfl
            refine pure_ (i := 12) (N := some 29) (v := ?_) (a' := ?_) (mB3_ 35 8191) rfl rfl (any_of HT_.out (by kernel_rfl)) (fun _ _ _ h => h) (Or.inl ⟨by rfl,?_⟩) ?_ ?_;rotate_left
            ·intro w'
             go_simp
             with_reducible rfl
            rotate_left
            ·simp only [Act.put,sB3_,sZ3_,sS3_,i64_w,i32_w]
             rfl
            refine pure_ (i := 13) (N := some 30) (v := ?_) (a' := ?_) (mB3_ 35 16383) rfl rfl (any_of HT_.out (by kernel_rfl)) (fun _ _ _ h => h) (Or.inl ⟨by rfl,?_⟩) ?_ ?_;rotate_left
            ·intro w'
             go_simp
             with_reducible rfl
            rotate_left
            ·simp only [Act.put,sB3_,sZ3_,sS3_,i64_w,i32_w]
             rfl
            refine pure_ (i := 14) (N := some 31) (v := ?_) (a' := ?_) (mB3_ 35 32767) rfl rfl (any_of HT_.out (by kernel_rfl)) (fun _ _ _ h => h) (Or.inl ⟨by rfl,?_⟩) ?_ ?_;rotate_left
            ·intro w'
             go_simp
             with_reducible rfl
            rotate_left
            ·simp only [Act.put,sB3_,sZ3_,sS3_,i64_w,i32_w]
             rfl
            refine pure_ (i := 15) (N := some 32) (v := ?_) (a' := ?_) (mB3_ 35 65535) rfl rfl (any_of HT_.out (by kernel_rfl)) (fun _ _ _ h => h) (Or.inl ⟨by rfl,?_⟩) ?_ ?_;rotate_left
            ·intro w'
             go_simp
             with_reducible rfl
            rotate_left
            ·simp only [Act.put,sB3_,sZ3_,sS3_,i64_w,i32_w]
             rfl
            refine pure_ (i := 16) (N := some 33) (v := ?_) (a' := ?_) (mB3_ 35 131071) rfl rfl (any_of HT_.out (by kernel_rfl)) (fun _ _ _ h => h) (Or.inl ⟨by rfl,?_⟩) ?_ ?_;rotate_left
            ·intro w'
             go_simp
             with_reducible rfl
            rotate_left
            ·simp only [Act.put,sB3_,sZ3_,sS3_,i64_w,i32_w]
             rfl
            refine pure_ (i := 17) (N := some 34) (v := ?_) (a' := ?_) (mB3_ 35 262143) rfl rfl (any_of HT_.out (by kernel_rfl)) (fun _ _ _ h => h) (Or.inl ⟨by rfl,?_⟩) ?_ ?_;rotate_left
            ·intro w'
             go_simp
             with_reducible rfl
            rotate_left
            ·simp only [Act.put,sB3_,sZ3_,sS3_,i64_w,i32_w]
             rfl
            refine pure_ (i := 18) (N := some 35) (v := ?_) (a' := ?_) (mB3_ 35 524287) rfl rfl (any_of HT_.out (by kernel_rfl)) (fun _ _ _ h => h) (Or.inl ⟨by rfl,?_⟩) ?_ ?_;rotate_left
            ·intro w'
             go_simp
             with_reducible rfl
            rotate_left
            ·simp only [Act.put,sB3_,sZ3_,sS3_,i64_w,i32_w]
             rfl
            refine take_ (i := 19) (N := some 36) (v := ?_) (a' := ?_) (mB3_ 35 1048575) rfl rfl (take_ofW HT_.out HW_.out (by kernel_rfl)) (fun _ _ _ h => h) (Or.inl ⟨by rfl,?_⟩) hHeld ?_ ?_;rotate_left
            ·rintro w' ⟨s0,s1,s2⟩
             go_simp
             with_reducible rfl
            rotate_left
            ·simp only [Act.put,sB3_,sZ3_,sS3_,i64_w,i32_w]
             rfl
            refine pure_ (i := 20) (N := some 37) (v := ?_) (a' := ?_) (mB3_ 35 2097151) rfl rfl (any_of HT_.out (by kernel_rfl)) (fun _ _ _ h => h) (Or.inl ⟨by rfl,?_⟩) ?_ ?_;rotate_left
            ·intro w'
             go_simp
             with_reducible rfl
            rotate_left
            ·simp only [Act.put,sB3_,sZ3_,sS3_,i64_w,i32_w]
             rfl
            refine pure_ (i := 21) (N := some 38) (v := ?_) (a' := ?_) (mB3_ 35 4194303) rfl rfl (any_of HT_.out (by kernel_rfl)) (fun _ _ _ h => h) (Or.inl ⟨by rfl,?_⟩) ?_ ?_;rotate_left
            ·intro w'
             go_simp
             with_reducible rfl
            rotate_left
            ·simp only [Act.put,sB3_,sZ3_,sS3_,i64_w,i32_w]
             rfl
            refine pure_ (i := 22) (N := some 39) (v := ?_) (a' := ?_) (mB3_ 35 8388607) rfl rfl (any_of HT_.out (by kernel_rfl)) (fun _ _ _ h => h) (Or.inl ⟨by rfl,?_⟩) ?_ ?_;rotate_left
            ·intro w'
             go_simp
             with_reducible rfl
            rotate_left
            ·simp only [Act.put,sB3_,sZ3_,sS3_,i64_w,i32_w]
             rfl
            refine pure_ (i := 23) (N := some 40) (v := ?_) (a' := ?_) (mB3_ 35 16777215) rfl rfl (any_of HT_.out (by kernel_rfl)) (fun _ _ _ h => h) (Or.inl ⟨by rfl,?_⟩) ?_ ?_;rotate_left
            ·intro w'
             go_simp
             with_reducible rfl
            rotate_left
            ·simp only [Act.put,sB3_,sZ3_,sS3_,i64_w,i32_w]
             rfl
            refine pure_ (i := 24) (N := some 41) (v := ?_) (a' := ?_) (mB3_ 35 33554431) rfl rfl (any_of HT_.out (by kernel_rfl)) (fun _ _ _ h => h) (Or.inl ⟨by rfl,?_⟩) ?_ ?_;rotate_left
            ·intro w'
             go_simp
             with_reducible rfl
            rotate_left
            ·simp only [Act.put,sB3_,sZ3_,sS3_,i64_w,i32_w]
             rfl
            refine pure_ (i := 25) (N := some 42) (v := ?_) (a' := ?_) (mB3_ 35 67108863) rfl rfl (any_of HT_.out (by kernel_rfl)) (fun _ _ _ h => h) (Or.inl ⟨by rfl,?_⟩) ?_ ?_;rotate_left
            ·intro w'
             go_simp
             with_reducible rfl
            rotate_left
            ·simp only [Act.put,sB3_,sZ3_,sS3_,i64_w,i32_w]
             rfl
            refine pure_ (i := 26) (N := some 43) (v := ?_) (a' := ?_) (mB3_ 35 134217727) rfl rfl (any_of HT_.out (by kernel_rfl)) (fun _ _ _ h => h) (Or.inl ⟨by rfl,?_⟩) ?_ ?_;rotate_left
            ·intro w'
             go_simp
             with_reducible rfl
            rotate_left
            ·simp only [Act.put,sB3_,sZ3_,sS3_,i64_w,i32_w]
             rfl
            refine pure_ (i := 27) (N := some 44) (v := ?_) (a' := ?_) (mB3_ 35 268435455) rfl rfl (any_of HT_.out (by kernel_rfl)) (fun _ _ _ h => h) (Or.inl ⟨by rfl,?_⟩) ?_ ?_;rotate_left
            ·intro w'
             go_simp
             with_reducible rfl
            rotate_left
            ·simp only [Act.put,sB3_,sZ3_,sS3_,i64_w,i32_w]
             rfl
            refine pure_ (i := 29) (N := some 46) (v := ?_) (a' := ?_) (mB3_ 35 805306367) rfl rfl (any_of HT_.out (by kernel_rfl)) (fun _ _ _ h => h) (Or.inl ⟨by rfl,?_⟩) ?_ ?_;rotate_left
            ·intro w'
             go_simp
             with_reducible rfl
            rotate_left
            ·simp only [Act.put,sB3_,sZ3_,sS3_,i64_w,i32_w]
             rfl
            refine pure_ (i := 30) (N := some 47) (v := ?_) (a' := ?_) (mB3_ 35 1879048191) rfl rfl (any_of HT_.out (by kernel_rfl)) (fun _ _ _ h => h) (Or.inl ⟨by rfl,?_⟩) ?_ ?_;rotate_left
            ·intro w'
             go_simp
             with_reducible rfl
            rotate_left
            ·simp only [Act.put,sB3_,sZ3_,sS3_,i64_w,i32_w]
             rfl
            refine take_ (i := 28) (N := some 45) (v := ?_) (a' := ?_) (mB3_ 35 2147483647) rfl rfl (take_ofW HT_.out HW_.out (by kernel_rfl)) (fun _ _ _ h => h) (Or.inl ⟨by rfl,?_⟩) hHeld ?_ ?_;rotate_left
            ·rintro w' ⟨s0,s1,s2⟩
             go_simp
             with_reducible rfl
            rotate_left
            ·simp only [Act.put,sB3_,sZ3_,sS3_,i64_w,i32_w]
             rfl
            refine one_ (i := 31) (N := some 48) (mB3_ 35 4294967295) rfl rfl (one_of HT_.out (by kernel_rfl)) (by decide) (fun K hK => ?_)
            refine goes_ Try.func38 (by kernel_rfl) rfl #[.int .i64 ((rd_T70 l0_0 x3_1).f1),.int .i64 0,.int .i64 (wrap64 (x3_1 - 1))] (by rfl) rfl rfl (by (try simp only [List.map_toArray,List.map_cons,List.map_nil]);first|done|rfl|(simp only [List.length_drop,List.length_take];rfl)) ?_
            with_reducible refine (spec_inRange.calls ((rd_T70 l0_0 x3_1).f1) 0 (wrap64 (x3_1 - 1)) t122 _ A22.out).mono ?_
            rintro e w' ⟨rfl,⟨nd,rfl⟩⟩
            refine ⟨_,rfl,?_⟩
            refine hK.out _ _ ⟨(blk_cell BK115.out 0).trans rfl,(blk_cell BK115.out 1).trans rfl,(blk_cell BK112.out 0).trans rfl⟩ (fun hHeld => ?_)
            clear hK K
            refine norm_ (a' := ?_) ?_ ?_;rotate_left
            ·show Act.put _ (some 48) _ = _
             simp only [Act.put,sB3_,sZ3_,sS3_,i64_w,i32_w]
             rfl
            refine pure_ (i := 32) (N := some 49) (v := ?_) (a' := ?_) (mB3_ 35 8589934591) rfl rfl (any_of HT_.out (by kernel_rfl)) (fun _ _ _ h => h) (Or.inl ⟨by rfl,?_⟩) ?_ ?_;rotate_left
            ·intro w'
             go_simp
             with_reducible rfl
            rotate_left
            ·simp only [Act.put,sB3_,sZ3_,sS3_,i64_w,i32_w]
             rfl
            refine pure_ (i := 33) (N := some 50) (v := ?_) (a' := ?_) (mB3_ 35 17179869183) rfl rfl (any_of HT_.out (by kernel_rfl)) (fun _ _ _ h => h) (Or.inl ⟨by rfl,?_⟩) ?_ ?_;rotate_left
            ·intro w'
             go_simp
             with_reducible rfl
            rotate_left
            ·simp only [Act.put,sB3_,sZ3_,sS3_,i64_w,i32_w]
             rfl
            refine pure_ (i := 34) (N := some 51) (v := ?_) (a' := ?_) (mB3_ 35 34359738367) rfl rfl (any_of HT_.out (by kernel_rfl)) (fun _ _ _ h => h) (Or.inl ⟨by rfl,?_⟩) ?_ ?_;rotate_left
            ·intro w'
             go_simp
             with_reducible rfl
            rotate_left
            ·simp only [Act.put,sB3_,sZ3_,sS3_,i64_w,i32_w]
             rfl
            refine done_ (done_of HT_.out (by kernel_rfl)) ?_
            try go_wp2
            go_meet
            case rel => exact ⟨_,(!t122),(by first|rfl|(simp;done)|(simp [*];done)),H',⟨by have := HK1.out;first|omega|exact Nat.le_refl _⟩,⟨by (with_reducible repeat (first|refine blk_drewN ?_ _|refine blk_drew ?_|refine blk_alloc ?_ _));exact BK112.out⟩,⟨by (with_reducible repeat (first|refine blk_drewN ?_ _|refine blk_drew ?_|refine blk_alloc ?_ _));exact BK115.out⟩,⟨by repeat (first|(with_reducible first|exact HB.out|apply below_alloc|apply pw_below_drewN|apply below_drew1|refine below_set ?_ GE112.out|refine below_set ?_ GE115.out)|exact HB.out)⟩⟩
           ·rw [if_neg c21] at H
            have c21b0 : decide (0 < x3_1) = false := decide_eq_false c21
            clear c21
            have H' := Aside0.mk H
            clear H
            try go_wp2
            have n0_ : Aside0 (((w7.setCell ⟨gb115,0,none⟩ (.string ((rd_T70 l0_0 x3_1).f0))).setCell ⟨gb115,1,none⟩ (.int .i64 ((rd_T70 l0_0 x3_1).f1))).heap[gb112]? = some (.cells #[.slice (some ad114) l0_0.length c0_0] 31 (0,0))) := ⟨by (with_reducible repeat (first|refine blk_drewN ?_ _|refine blk_drew ?_|refine blk_alloc ?_ _));refine blk_far ?_ NB112_115.out _;(with_reducible repeat (first|refine blk_drewN ?_ _|refine blk_drew ?_|refine blk_alloc ?_ _));refine blk_far ?_ NB112_115.out _;(with_reducible repeat (first|refine blk_drewN ?_ _|refine blk_drew ?_|refine blk_alloc ?_ _));exact BK112.out⟩
            have n1_ : Aside0 (((w7.setCell ⟨gb115,0,none⟩ (.string ((rd_T70 l0_0 x3_1).f0))).setCell ⟨gb115,1,none⟩ (.int .i64 ((rd_T70 l0_0 x3_1).f1))).heap[gb115]? = some (.cells #[.string ((rd_T70 l0_0 x3_1).f0),.int .i64 ((rd_T70 l0_0 x3_1).f1)] 70 (0,0))) := ⟨by (with_reducible repeat (first|refine blk_drewN ?_ _|refine blk_drew ?_|refine blk_alloc ?_ _));refine blk_put (cs := #[.string ((rd_T70 l0_0 x3_1).f0),.int .i64 0]) ?_ 1 _ rfl;(with_reducible repeat (first|refine blk_drewN ?_ _|refine blk_drew ?_|refine blk_alloc ?_ _));refine blk_put (cs := #[.string (⟨#[]⟩ : ByteArray),.int .i64 0]) ?_ 0 _ rfl;(with_reducible repeat (first|refine blk_drewN ?_ _|refine blk_drew ?_|refine blk_alloc ?_ _));exact BK115.out⟩
            have n2_ : Aside0 (Below w.heap.size w ((w7.setCell ⟨gb115,0,none⟩ (.string ((rd_T70 l0_0 x3_1).f0))).setCell ⟨gb115,1,none⟩ (.int .i64 ((rd_T70 l0_0 x3_1).f1)))) := ⟨by repeat (first|(with_reducible first|exact HB.out|apply below_alloc|apply pw_below_drewN|apply below_drew1|refine below_set ?_ GE112.out|refine below_set ?_ GE115.out)|exact HB.out)⟩
            (try clear BK112)
            (try clear BK115)
            (try clear HB)
            generalize ((w7.setCell ⟨gb115,0,none⟩ (.string ((rd_T70 l0_0 x3_1).f0))).setCell ⟨gb115,1,none⟩ (.int .i64 ((rd_T70 l0_0 x3_1).f1))) = w26 at n0_ n1_ n2_ ⊢
            have BK112 := n0_
            have BK115 := n1_
            have HB := n2_
            clear n0_ n1_ n2_
            have n0_ := Aside0.mk (blk_drew BK112.out)
            have n1_ := Aside0.mk (blk_drew BK115.out)
            have n2_ := Aside0.mk (below_drew1 HB.out)
            clear BK112
            clear BK115
            clear HB
            have BK112 := n0_
            have BK115 := n1_
            have HB := n2_
            clear n0_ n1_ n2_
            refine start_ (n := 35) (S := fun w' => w'.cell? ⟨gb115,0,none⟩ = some (.string ((rd_T70 l0_0 x3_1).f0)) ∧ w'.cell? ⟨gb115,1,none⟩ = some (.int .i64 ((rd_T70 l0_0 x3_1).f1)) ∧ w'.cell? ⟨gb112,0,none⟩ = some (.slice (some ad114) l0_0.length c0_0)) (ds := []) #[false,false,false,false,false,false,false,false,false,false,false,false,false,false,false,false,false,false,false,false,false,false,false,false,false,false,false,false,false,false,false,false,false,false,false] (by kernel_rfl) rfl rfl ⟨(blk_cell BK115.out 0).trans rfl,(blk_cell BK115.out 1).trans rfl,(blk_cell BK112.out 0).trans rfl⟩ (fun hHeld => ?_);refine with_tabW spec_validTree.tab5 spec_validTree.bits5 (fun HT_ HW_ => ?_)
            generalize w26.drew = w27 at BK112 BK115 HB hHeld ⊢
            refine pure_ (i := 0) (N := some 17) (v := ?_) (a' := ?_) (mB3_ 35 1) rfl rfl (any_of HT_.out (by kernel_rfl)) (fun _ _ _ h => h) (Or.inl ⟨by rfl,?_⟩) ?_ ?_;rotate_left
            ·intro w'
             go_simp
             with_reducible rfl
            rotate_left
            ·simp only [Act.put,sB3_,sZ3_,sS3_,i64_w,i32_w]
             rfl
            refine take_ (i := 1) (N := some 18) (v := ?_) (a' := ?_) (mB3_ 35 3) rfl rfl (take_ofW HT_.out HW_.out (by kernel_rfl)) (fun _ _ _ h => h) (Or.inl ⟨by rfl,?_⟩) hHeld ?_ ?_;rotate_left
            ·rintro w' ⟨s0,s1,s2⟩
             go_simp
             with_reducible rfl
            rotate_left
            ·simp only [Act.put,sB3_,sZ3_,sS3_,i64_w,i32_w]
             rfl
            refine one_ (i := 2) (N := some 19) (mB3_ 35 7) rfl rfl (one_of HT_.out (by kernel_rfl)) (by decide) (fun K hK => ?_)
            refine goes_ Try.func57 (by kernel_rfl) rfl #[.string ((rd_T70 l0_0 x3_1).f0)] (by rfl) rfl rfl (by (try simp only [List.map_toArray,List.map_cons,List.map_nil]);first|done|rfl|(simp only [List.length_drop,List.length_take];rfl)) ?_
            with_reducible refine (spec_validName.calls k1 ((rd_T70 l0_0 x3_1).f0) true _ A10.out).mono ?_
            rintro e w' ⟨rfl,⟨nd,rfl⟩⟩
            refine ⟨_,rfl,?_⟩
            have q28 : (x3_1 : Int) ≤ ((l0_0.length : Int) : Int) := of_decide_eq_true (by first|(with_reducible assumption)|assumption)
            obtain ⟨i028,hi028,_,hsz28,_⟩ := info_parts info70
            have hroom28 : l0_0.length ≤ c0_0 := HC0_0.out
            have hC28 : Kd.C k70 _ (some ad114) l0_0.length l0_0 := HR0_0.out
            have hcut28 := cut_to (P := Try.prog) 29 70 .i64 Try.underlying29 hi028 (some ad114) l0_0.length c0_0 x3_1 (of_decide_eq_true (by first|(with_reducible assumption)|assumption)) q28 hroom28
            have hr28 := Kd.C_take (m := (x3_1 : Int).toNat) hC28 (by omega)
            have hy28 : y117.length = (x3_1 : Int).toNat := (by rw [Ny117.out,List.length_take];omega)
            rw [← Ny117.out] at hr28
            rw [← hy28] at hcut28
            have HR120 := Aside0.mk hr28
            have HC120 := Aside0.mk (show y117.length ≤ c0_0 from by omega)
            clear hr28 hC28 hroom28 hi028 hsz28
            have KY28 := Aside0.mk hy28
            clear hy28
            replace q28 := eq_true q28
            refine hK.out _ _ ⟨(blk_cell BK115.out 0).trans rfl,(blk_cell BK115.out 1).trans rfl,(blk_cell BK112.out 0).trans rfl⟩ (fun hHeld => ?_)
            clear hK K
            refine norm_ (a' := ?_) ?_ ?_;rotate_left
            ·show Act.put _ (some 19) _ = _
             simp only [Act.put,sB3_,sZ3_,sS3_,i64_w,i32_w]
             rfl
            refine pure_ (i := 3) (N := some 20) (v := ?_) (a' := ?_) (mB3_ 35 15) rfl rfl (any_of HT_.out (by kernel_rfl)) (fun _ _ _ h => h) (Or.inl ⟨by rfl,?_⟩) ?_ ?_;rotate_left
            ·intro w'
             go_simp
             with_reducible rfl
            rotate_left
            ·simp only [Act.put,sB3_,sZ3_,sS3_,i64_w,i32_w]
             rfl
            refine pure_ (i := 4) (N := some 21) (v := ?_) (a' := ?_) (mB3_ 35 31) rfl rfl (any_of HT_.out (by kernel_rfl)) (fun _ _ _ h => h) (Or.inl ⟨by rfl,?_⟩) ?_ ?_;rotate_left
            ·intro w'
             go_simp
             with_reducible rfl
            rotate_left
            ·simp only [Act.put,sB3_,sZ3_,sS3_,i64_w,i32_w]
             rfl
            refine pure_ (i := 5) (N := some 22) (v := ?_) (a' := ?_) (mB3_ 35 63) rfl rfl (any_of HT_.out (by kernel_rfl)) (fun _ _ _ h => h) (Or.inl ⟨by rfl,?_⟩) ?_ ?_;rotate_left
            ·intro w'
             go_simp
             with_reducible rfl
            rotate_left
            ·simp only [Act.put,sB3_,sZ3_,sS3_,i64_w,i32_w]
             rfl
            refine pure_ (i := 7) (N := some 24) (v := ?_) (a' := ?_) (mB3_ 35 191) rfl rfl (any_of HT_.out (by kernel_rfl)) (fun _ _ _ h => h) (Or.inl ⟨by rfl,?_⟩) ?_ ?_;rotate_left
            ·intro w'
             go_simp
             with_reducible rfl
            rotate_left
            ·simp only [Act.put,sB3_,sZ3_,sS3_,i64_w,i32_w]
             rfl
            refine pure_ (i := 9) (N := some 26) (v := ?_) (a' := ?_) (mB3_ 35 703) rfl rfl (any_of HT_.out (by kernel_rfl)) (fun _ _ _ h => h) (Or.inl ⟨by rfl,?_⟩) ?_ ?_;rotate_left
            ·intro w'
             go_simp
             with_reducible rfl
            rotate_left
            ·simp only [Act.put,sB3_,sZ3_,sS3_,i64_w,i32_w]
             rfl
            refine take_ (i := 6) (N := some 23) (v := ?_) (a' := ?_) (mB3_ 35 767) rfl rfl (take_ofW HT_.out HW_.out (by kernel_rfl)) (fun _ _ _ h => h) (Or.inl ⟨by rfl,?_⟩) hHeld ?_ ?_;rotate_left
            ·rintro w' ⟨s0,s1,s2⟩
             go_simp
             with_reducible rfl
            rotate_left
            ·simp only [Act.put,sB3_,sZ3_,sS3_,i64_w,i32_w]
             rfl
            refine pure_ (i := 8) (N := some 25) (v := ?_) (a' := ?_) (mB3_ 35 1023) rfl rfl (any_of HT_.out (by kernel_rfl)) (fun _ _ _ h => h) (Or.inl ⟨by rfl,?_⟩) ?_ ?_;rotate_left
            ·intro w'
             go_simp
             with_reducible rfl
            rotate_left
            ·simp only [Act.put,sB3_,sZ3_,sS3_,i64_w,i32_w]
             rfl
            refine take_ (i := 10) (N := some 27) (v := ?_) (a' := ?_) (mB3_ 35 2047) rfl rfl (take_ofW HT_.out HW_.out (by kernel_rfl)) (fun _ _ _ h => h) (Or.inl ⟨by rfl,?_⟩) hHeld ?_ ?_;rotate_left
            ·rintro w' ⟨s0,s1,s2⟩
             go_simp
             with_reducible rfl
            rotate_left
            ·simp only [Act.put,sB3_,sZ3_,sS3_,i64_w,i32_w]
             rfl
            refine one_ (i := 11) (N := some 28) (mB3_ 35 4095) rfl rfl (one_of HT_.out (by kernel_rfl)) (by decide) (fun K hK => ?_)
            refine goes_ Try.func58 (by kernel_rfl) rfl #[.slice (some ad114) y117.length c0_0,.string ((rd_T70 l0_0 x3_1).f0)] (by rfl) rfl rfl (by (try simp only [List.map_toArray,List.map_cons,List.map_nil]);first|done|rfl|(simp only [List.length_drop,List.length_take];rfl)) ?_
            with_reducible refine (spec_classNamed.calls k1 _ _ y117 ((rd_T70 l0_0 x3_1).f0) t121 _ ?side1 ?side2 A14.out).mono ?_
            (case side1 => repeat (first|exact (Kd.C_below HR120.out (by repeat (first|(with_reducible first|exact HB.out|apply below_alloc|apply pw_below_drewN|apply below_drew1|refine below_set ?_ GE112.out|refine below_set ?_ GE115.out)|exact HB.out)))|(with_reducible refine Kd.C_alloc ?_ _)|(with_reducible refine Kd.C_drewN ?_ _)|(with_reducible refine Kd.C_drew ?_)))
            (case side2 => exact HC120.out)
            rintro e w' ⟨rfl,⟨nd,rfl⟩⟩
            refine ⟨_,rfl,?_⟩
            refine hK.out _ _ ⟨(blk_cell BK115.out 0).trans rfl,(blk_cell BK115.out 1).trans rfl,(blk_cell BK112.out 0).trans rfl⟩ (fun hHeld => ?_)
            clear hK K
            refine norm_ (a' := ?_) ?_ ?_;rotate_left
            ·show Act.put _ (some 28) _ = _
             simp only [Act.put,sB3_,sZ3_,sS3_,i64_w,i32_w]
             rfl
            refine pure_ (i := 12) (N := some 29) (v := ?_) (a' := ?_) (mB3_ 35 8191) rfl rfl (any_of HT_.out (by kernel_rfl)) (fun _ _ _ h => h) (Or.inl ⟨by rfl,?_⟩) ?_ ?_;rotate_left
            ·intro w'
             go_simp
             with_reducible rfl
            rotate_left
            ·simp only [Act.put,sB3_,sZ3_,sS3_,i64_w,i32_w]
             rfl
            refine pure_ (i := 13) (N := some 30) (v := ?_) (a' := ?_) (mB3_ 35 16383) rfl rfl (any_of HT_.out (by kernel_rfl)) (fun _ _ _ h => h) (Or.inl ⟨by rfl,?_⟩) ?_ ?_;rotate_left
            ·intro w'
             go_simp
             with_reducible rfl
            rotate_left
            ·simp only [Act.put,sB3_,sZ3_,sS3_,i64_w,i32_w]
             rfl
            refine pure_ (i := 14) (N := some 31) (v := ?_) (a' := ?_) (mB3_ 35 32767) rfl rfl (any_of HT_.out (by kernel_rfl)) (fun _ _ _ h => h) (Or.inl ⟨by rfl,?_⟩) ?_ ?_;rotate_left
            ·intro w'
             go_simp
             with_reducible rfl
            rotate_left
            ·simp only [Act.put,sB3_,sZ3_,sS3_,i64_w,i32_w]
             rfl
            refine pure_ (i := 15) (N := some 32) (v := ?_) (a' := ?_) (mB3_ 35 65535) rfl rfl (any_of HT_.out (by kernel_rfl)) (fun _ _ _ h => h) (Or.inl ⟨by rfl,?_⟩) ?_ ?_;rotate_left
            ·intro w'
             go_simp
             with_reducible rfl
            rotate_left
            ·simp only [Act.put,sB3_,sZ3_,sS3_,i64_w,i32_w]
             rfl
            refine pure_ (i := 16) (N := some 33) (v := ?_) (a' := ?_) (mB3_ 35 131071) rfl rfl (any_of HT_.out (by kernel_rfl)) (fun _ _ _ h => h) (Or.inl ⟨by rfl,?_⟩) ?_ ?_;rotate_left
            ·intro w'
             go_simp
             with_reducible rfl
            rotate_left
            ·simp only [Act.put,sB3_,sZ3_,sS3_,i64_w,i32_w]
             rfl
            refine pure_ (i := 17) (N := some 34) (v := ?_) (a' := ?_) (mB3_ 35 262143) rfl rfl (any_of HT_.out (by kernel_rfl)) (fun _ _ _ h => h) (Or.inl ⟨by rfl,?_⟩) ?_ ?_;rotate_left
            ·intro w'
             go_simp
             with_reducible rfl
            rotate_left
            ·simp only [Act.put,sB3_,sZ3_,sS3_,i64_w,i32_w]
             rfl
            refine pure_ (i := 18) (N := some 35) (v := ?_) (a' := ?_) (mB3_ 35 524287) rfl rfl (any_of HT_.out (by kernel_rfl)) (fun _ _ _ h => h) (Or.inl ⟨by rfl,?_⟩) ?_ ?_;rotate_left
            ·intro w'
             go_simp
             with_reducible rfl
            rotate_left
            ·simp only [Act.put,sB3_,sZ3_,sS3_,i64_w,i32_w]
             rfl
            refine take_ (i := 19) (N := some 36) (v := ?_) (a' := ?_) (mB3_ 35 1048575) rfl rfl (take_ofW HT_.out HW_.out (by kernel_rfl)) (fun _ _ _ h => h) (Or.inl ⟨by rfl,?_⟩) hHeld ?_ ?_;rotate_left
            ·rintro w' ⟨s0,s1,s2⟩
             go_simp
             with_reducible rfl
            rotate_left
            ·simp only [Act.put,sB3_,sZ3_,sS3_,i64_w,i32_w]
             rfl
            refine pure_ (i := 20) (N := some 37) (v := ?_) (a' := ?_) (mB3_ 35 2097151) rfl rfl (any_of HT_.out (by kernel_rfl)) (fun _ _ _ h => h) (Or.inl ⟨by rfl,?_⟩) ?_ ?_;rotate_left
            ·intro w'
             go_simp
             with_reducible rfl
            rotate_left
            ·simp only [Act.put,sB3_,sZ3_,sS3_,i64_w,i32_w]
             rfl
            refine pure_ (i := 21) (N := some 38) (v := ?_) (a' := ?_) (mB3_ 35 4194303) rfl rfl (any_of HT_.out (by kernel_rfl)) (fun _ _ _ h => h) (Or.inl ⟨by rfl,?_⟩) ?_ ?_;rotate_left
            ·intro w'
             go_simp
             with_reducible rfl
            rotate_left
            ·simp only [Act.put,sB3_,sZ3_,sS3_,i64_w,i32_w]
             rfl
            refine pure_ (i := 22) (N := some 39) (v := ?_) (a' := ?_) (mB3_ 35 8388607) rfl rfl (any_of HT_.out (by kernel_rfl)) (fun _ _ _ h => h) (Or.inl ⟨by rfl,?_⟩) ?_ ?_;rotate_left
            ·intro w'
             go_simp
             with_reducible rfl
            rotate_left
            ·simp only [Act.put,sB3_,sZ3_,sS3_,i64_w,i32_w]
             rfl
            refine pure_ (i := 23) (N := some 40) (v := ?_) (a' := ?_) (mB3_ 35 16777215) rfl rfl (any_of HT_.out (by kernel_rfl)) (fun _ _ _ h => h) (Or.inl ⟨by rfl,?_⟩) ?_ ?_;rotate_left
            ·intro w'
             go_simp
             with_reducible rfl
            rotate_left
            ·simp only [Act.put,sB3_,sZ3_,sS3_,i64_w,i32_w]
             rfl
            refine pure_ (i := 24) (N := some 41) (v := ?_) (a' := ?_) (mB3_ 35 33554431) rfl rfl (any_of HT_.out (by kernel_rfl)) (fun _ _ _ h => h) (Or.inl ⟨by rfl,?_⟩) ?_ ?_;rotate_left
            ·intro w'
             go_simp
             with_reducible rfl
            rotate_left
            ·simp only [Act.put,sB3_,sZ3_,sS3_,i64_w,i32_w]
             rfl
            refine pure_ (i := 25) (N := some 42) (v := ?_) (a' := ?_) (mB3_ 35 67108863) rfl rfl (any_of HT_.out (by kernel_rfl)) (fun _ _ _ h => h) (Or.inl ⟨by rfl,?_⟩) ?_ ?_;rotate_left
            ·intro w'
             go_simp
             with_reducible rfl
            rotate_left
            ·simp only [Act.put,sB3_,sZ3_,sS3_,i64_w,i32_w]
             rfl
            refine pure_ (i := 26) (N := some 43) (v := ?_) (a' := ?_) (mB3_ 35 134217727) rfl rfl (any_of HT_.out (by kernel_rfl)) (fun _ _ _ h => h) (Or.inl ⟨by rfl,?_⟩) ?_ ?_;rotate_left
            ·intro w'
             go_simp
             with_reducible rfl
            rotate_left
            ·simp only [Act.put,sB3_,sZ3_,sS3_,i64_w,i32_w]
             rfl
            refine pure_ (i := 27) (N := some 44) (v := undef) (a' := ?_) (mB3_ 35 268435455) rfl rfl (any_of HT_.out (by kernel_rfl)) (fun _ _ _ h => h) (Or.inr ⟨by rfl,rfl⟩) ?_ ?_;rotate_left
            ·simp only [Act.put,sB3_,sZ3_,sS3_,i64_w,i32_w]
             rfl
            refine pure_ (i := 28) (N := some 45) (v := undef) (a' := ?_) (mB3_ 35 536870911) rfl rfl (any_of HT_.out (by kernel_rfl)) (fun _ _ _ h => h) (Or.inr ⟨by rfl,rfl⟩) ?_ ?_;rotate_left
            ·simp only [Act.put,sB3_,sZ3_,sS3_,i64_w,i32_w]
             rfl
            refine pure_ (i := 29) (N := some 46) (v := undef) (a' := ?_) (mB3_ 35 1073741823) rfl rfl (any_of HT_.out (by kernel_rfl)) (fun _ _ _ h => h) (Or.inr ⟨by rfl,rfl⟩) ?_ ?_;rotate_left
            ·simp only [Act.put,sB3_,sZ3_,sS3_,i64_w,i32_w]
             rfl
            refine pure_ (i := 30) (N := some 47) (v := undef) (a' := ?_) (mB3_ 35 2147483647) rfl rfl (any_of HT_.out (by kernel_rfl)) (fun _ _ _ h => h) (Or.inr ⟨by rfl,rfl⟩) ?_ ?_;rotate_left
            ·simp only [Act.put,sB3_,sZ3_,sS3_,i64_w,i32_w]
             rfl
            refine pure_ (i := 31) (N := some 48) (v := undef) (a' := ?_) (mB3_ 35 4294967295) rfl rfl (any_of HT_.out (by kernel_rfl)) (fun _ _ _ h => h) (Or.inr ⟨by rfl,rfl⟩) ?_ ?_;rotate_left
            ·simp only [Act.put,sB3_,sZ3_,sS3_,i64_w,i32_w]
             rfl
            refine pure_ (i := 32) (N := some 49) (v := undef) (a' := ?_) (mB3_ 35 8589934591) rfl rfl (any_of HT_.out (by kernel_rfl)) (fun _ _ _ h => h) (Or.inr ⟨by rfl,rfl⟩) ?_ ?_;rotate_left
            ·simp only [Act.put,sB3_,sZ3_,sS3_,i64_w,i32_w]
             rfl
            refine pure_ (i := 33) (N := some 50) (v := ?_) (a' := ?_) (mB3_ 35 17179869183) rfl rfl (any_of HT_.out (by kernel_rfl)) (fun _ _ _ h => h) (Or.inl ⟨by rfl,?_⟩) ?_ ?_;rotate_left
            ·intro w'
             go_simp
             with_reducible rfl
            rotate_left
            ·simp only [Act.put,sB3_,sZ3_,sS3_,i64_w,i32_w]
             rfl
            refine pure_ (i := 34) (N := some 51) (v := ?_) (a' := ?_) (mB3_ 35 34359738367) rfl rfl (any_of HT_.out (by kernel_rfl)) (fun _ _ _ h => h) (Or.inl ⟨by rfl,?_⟩) ?_ ?_;rotate_left
            ·intro w'
             go_simp
             with_reducible rfl
            rotate_left
            ·simp only [Act.put,sB3_,sZ3_,sS3_,i64_w,i32_w]
             rfl
            refine done_ (done_of HT_.out (by kernel_rfl)) ?_
            try go_wp2
            go_meet
            case rel => exact ⟨_,(false),(by first|rfl|(simp;done)|(simp [*];done)),H',⟨by have := HK1.out;first|omega|exact Nat.le_refl _⟩,⟨by (with_reducible repeat (first|refine blk_drewN ?_ _|refine blk_drew ?_|refine blk_alloc ?_ _));exact BK112.out⟩,⟨by (with_reducible repeat (first|refine blk_drewN ?_ _|refine blk_drew ?_|refine blk_alloc ?_ _));exact BK115.out⟩,⟨by repeat (first|(with_reducible first|exact HB.out|apply below_alloc|apply pw_below_drewN|apply below_drew1|refine below_set ?_ GE112.out|refine below_set ?_ GE115.out)|exact HB.out)⟩⟩
          ·rw [if_neg c20] at H
           have c20b0 : (((rd_T70 l0_0 x3_1).f1) == (-1)) = false := beq_eq_false_iff_ne.mpr c20
           have c20b1 : (((rd_T70 l0_0 x3_1).f1) != (-1)) = true := bne_iff_ne.mpr c20
           have H' := Aside0.mk H
           clear H
           try go_wp2
           have n0_ : Aside0 (((w7.setCell ⟨gb115,0,none⟩ (.string ((rd_T70 l0_0 x3_1).f0))).setCell ⟨gb115,1,none⟩ (.int .i64 ((rd_T70 l0_0 x3_1).f1))).heap[gb112]? = some (.cells #[.slice (some ad114) l0_0.length c0_0] 31 (0,0))) := ⟨by (with_reducible repeat (first|refine blk_drewN ?_ _|refine blk_drew ?_|refine blk_alloc ?_ _));refine blk_far ?_ NB112_115.out _;(with_reducible repeat (first|refine blk_drewN ?_ _|refine blk_drew ?_|refine blk_alloc ?_ _));refine blk_far ?_ NB112_115.out _;(with_reducible repeat (first|refine blk_drewN ?_ _|refine blk_drew ?_|refine blk_alloc ?_ _));exact BK112.out⟩
           have n1_ : Aside0 (((w7.setCell ⟨gb115,0,none⟩ (.string ((rd_T70 l0_0 x3_1).f0))).setCell ⟨gb115,1,none⟩ (.int .i64 ((rd_T70 l0_0 x3_1).f1))).heap[gb115]? = some (.cells #[.string ((rd_T70 l0_0 x3_1).f0),.int .i64 ((rd_T70 l0_0 x3_1).f1)] 70 (0,0))) := ⟨by (with_reducible repeat (first|refine blk_drewN ?_ _|refine blk_drew ?_|refine blk_alloc ?_ _));refine blk_put (cs := #[.string ((rd_T70 l0_0 x3_1).f0),.int .i64 0]) ?_ 1 _ rfl;(with_reducible repeat (first|refine blk_drewN ?_ _|refine blk_drew ?_|refine blk_alloc ?_ _));refine blk_put (cs := #[.string (⟨#[]⟩ : ByteArray),.int .i64 0]) ?_ 0 _ rfl;(with_reducible repeat (first|refine blk_drewN ?_ _|refine blk_drew ?_|refine blk_alloc ?_ _));exact BK115.out⟩
           have n2_ : Aside0 (Below w.heap.size w ((w7.setCell ⟨gb115,0,none⟩ (.string ((rd_T70 l0_0 x3_1).f0))).setCell ⟨gb115,1,none⟩ (.int .i64 ((rd_T70 l0_0 x3_1).f1)))) := ⟨by repeat (first|(with_reducible first|exact HB.out|apply below_alloc|apply pw_below_drewN|apply below_drew1|refine below_set ?_ GE112.out|refine below_set ?_ GE115.out)|exact HB.out)⟩
           (try clear BK112)
           (try clear BK115)
           (try clear HB)
           generalize ((w7.setCell ⟨gb115,0,none⟩ (.string ((rd_T70 l0_0 x3_1).f0))).setCell ⟨gb115,1,none⟩ (.int .i64 ((rd_T70 l0_0 x3_1).f1))) = w29 at n0_ n1_ n2_ ⊢
           have BK112 := n0_
           have BK115 := n1_
           have HB := n2_
           clear n0_ n1_ n2_
           have n0_ := Aside0.mk (blk_drew BK112.out)
           have n1_ := Aside0.mk (blk_drew BK115.out)
           have n2_ := Aside0.mk (below_drew1 HB.out)
           clear BK112
           clear BK115
           clear HB
           have BK112 := n0_
           have BK115 := n1_
           have HB := n2_
           clear n0_ n1_ n2_
           refine start_ (n := 35) (S := fun w' => w'.cell? ⟨gb115,0,none⟩ = some (.string ((rd_T70 l0_0 x3_1).f0)) ∧ w'.cell? ⟨gb115,1,none⟩ = some (.int .i64 ((rd_T70 l0_0 x3_1).f1)) ∧ w'.cell? ⟨gb112,0,none⟩ = some (.slice (some ad114) l0_0.length c0_0)) (ds := []) #[false,false,false,false,false,false,false,false,false,false,false,false,false,false,false,false,false,false,false,false,false,false,false,false,false,false,false,false,false,false,false,false,false,false,false] (by kernel_rfl) rfl rfl ⟨(blk_cell BK115.out 0).trans rfl,(blk_cell BK115.out 1).trans rfl,(blk_cell BK112.out 0).trans rfl⟩ (fun hHeld => ?_);refine with_tabW spec_validTree.tab5 spec_validTree.bits5 (fun HT_ HW_ => ?_)
           generalize w29.drew = w30 at BK112 BK115 HB hHeld ⊢
           refine pure_ (i := 0) (N := some 17) (v := ?_) (a' := ?_) (mB3_ 35 1) rfl rfl (any_of HT_.out (by kernel_rfl)) (fun _ _ _ h => h) (Or.inl ⟨by rfl,?_⟩) ?_ ?_;rotate_left
           ·intro w'
            go_simp
            with_reducible rfl
           rotate_left
           ·simp only [Act.put,sB3_,sZ3_,sS3_,i64_w,i32_w]
            rfl
           refine take_ (i := 1) (N := some 18) (v := ?_) (a' := ?_) (mB3_ 35 3) rfl rfl (take_ofW HT_.out HW_.out (by kernel_rfl)) (fun _ _ _ h => h) (Or.inl ⟨by rfl,?_⟩) hHeld ?_ ?_;rotate_left
           ·rintro w' ⟨s0,s1,s2⟩
            go_simp
            with_reducible rfl
           rotate_left
           ·simp only [Act.put,sB3_,sZ3_,sS3_,i64_w,i32_w]
            rfl
           refine one_ (i := 2) (N := some 19) (mB3_ 35 7) rfl rfl (one_of HT_.out (by kernel_rfl)) (by decide) (fun K hK => ?_)
           refine goes_ Try.func57 (by kernel_rfl) rfl #[.string ((rd_T70 l0_0 x3_1).f0)] (by rfl) rfl rfl (by (try simp only [List.map_toArray,List.map_cons,List.map_nil]);first|done|rfl|(simp only [List.length_drop,List.length_take];rfl)) ?_
           with_reducible refine (spec_validName.calls k1 ((rd_T70 l0_0 x3_1).f0) true _ A10.out).mono ?_
           rintro e w' ⟨rfl,⟨nd,rfl⟩⟩
           refine ⟨_,rfl,?_⟩
           have q31 : (x3_1 : Int) ≤ ((l0_0.length : Int) : Int) := of_decide_eq_true (by first|(with_reducible assumption)|assumption)
           obtain ⟨i031,hi031,_,hsz31,_⟩ := info_parts info70
           have hroom31 : l0_0.length ≤ c0_0 := HC0_0.out
           have hC31 : Kd.C k70 _ (some ad114) l0_0.length l0_0 := HR0_0.out
           have hcut31 := cut_to (P := Try.prog) 29 70 .i64 Try.underlying29 hi031 (some ad114) l0_0.length c0_0 x3_1 (of_decide_eq_true (by first|(with_reducible assumption)|assumption)) q31 hroom31
           have hr31 := Kd.C_take (m := (x3_1 : Int).toNat) hC31 (by omega)
           have hy31 : y117.length = (x3_1 : Int).toNat := (by rw [Ny117.out,List.length_take];omega)
           rw [← Ny117.out] at hr31
           rw [← hy31] at hcut31
           have HR120 := Aside0.mk hr31
           have HC120 := Aside0.mk (show y117.length ≤ c0_0 from by omega)
           clear hr31 hC31 hroom31 hi031 hsz31
           have KY31 := Aside0.mk hy31
           clear hy31
           replace q31 := eq_true q31
           refine hK.out _ _ ⟨(blk_cell BK115.out 0).trans rfl,(blk_cell BK115.out 1).trans rfl,(blk_cell BK112.out 0).trans rfl⟩ (fun hHeld => ?_)
           clear hK K
           refine norm_ (a' := ?_) ?_ ?_;rotate_left
           ·show Act.put _ (some 19) _ = _
            simp only [Act.put,sB3_,sZ3_,sS3_,i64_w,i32_w]
            rfl
           refine pure_ (i := 3) (N := some 20) (v := ?_) (a' := ?_) (mB3_ 35 15) rfl rfl (any_of HT_.out (by kernel_rfl)) (fun _ _ _ h => h) (Or.inl ⟨by rfl,?_⟩) ?_ ?_;rotate_left
           ·intro w'
            go_simp
            with_reducible rfl
           rotate_left
           ·simp only [Act.put,sB3_,sZ3_,sS3_,i64_w,i32_w]
            rfl
           refine pure_ (i := 4) (N := some 21) (v := ?_) (a' := ?_) (mB3_ 35 31) rfl rfl (any_of HT_.out (by kernel_rfl)) (fun _ _ _ h => h) (Or.inl ⟨by rfl,?_⟩) ?_ ?_;rotate_left
           ·intro w'
            go_simp
            with_reducible rfl
           rotate_left
           ·simp only [Act.put,sB3_,sZ3_,sS3_,i64_w,i32_w]
            rfl
           refine pure_ (i := 5) (N := some 22) (v := ?_) (a' := ?_) (mB3_ 35 63) rfl rfl (any_of HT_.out (by kernel_rfl)) (fun _ _ _ h => h) (Or.inl ⟨by rfl,?_⟩) ?_ ?_;rotate_left
           ·intro w'
            go_simp
            with_reducible rfl
           rotate_left
           ·simp only [Act.put,sB3_,sZ3_,sS3_,i64_w,i32_w]
            rfl
           refine pure_ (i := 7) (N := some 24) (v := ?_) (a' := ?_) (mB3_ 35 191) rfl rfl (any_of HT_.out (by kernel_rfl)) (fun _ _ _ h => h) (Or.inl ⟨by rfl,?_⟩) ?_ ?_;rotate_left
           ·intro w'
            go_simp
            with_reducible rfl
           rotate_left
           ·simp only [Act.put,sB3_,sZ3_,sS3_,i64_w,i32_w]
            rfl
           refine pure_ (i := 9) (N := some 26) (v := ?_) (a' := ?_) (mB3_ 35 703) rfl rfl (any_of HT_.out (by kernel_rfl)) (fun _ _ _ h => h) (Or.inl ⟨by rfl,?_⟩) ?_ ?_;rotate_left
           ·intro w'
            go_simp
            with_reducible rfl
           rotate_left
           ·simp only [Act.put,sB3_,sZ3_,sS3_,i64_w,i32_w]
            rfl
           refine take_ (i := 6) (N := some 23) (v := ?_) (a' := ?_) (mB3_ 35 767) rfl rfl (take_ofW HT_.out HW_.out (by kernel_rfl)) (fun _ _ _ h => h) (Or.inl ⟨by rfl,?_⟩) hHeld ?_ ?_;rotate_left
           ·rintro w' ⟨s0,s1,s2⟩
            go_simp
            with_reducible rfl
           rotate_left
           ·simp only [Act.put,sB3_,sZ3_,sS3_,i64_w,i32_w]
            rfl
           refine pure_ (i := 8) (N := some 25) (v := ?_) (a' := ?_) (mB3_ 35 1023) rfl rfl (any_of HT_.out (by kernel_rfl)) (fun _ _ _ h => h) (Or.inl ⟨by rfl,?_⟩) ?_ ?_;rotate_left
           ·intro w'
            go_simp
            with_reducible rfl
           rotate_left
           ·simp only [Act.put,sB3_,sZ3_,sS3_,i64_w,i32_w]
            rfl
           refine take_ (i := 10) (N := some 27) (v := ?_) (a' := ?_) (mB3_ 35 2047) rfl rfl (take_ofW HT_.out HW_.out (by kernel_rfl)) (fun _ _ _ h => h) (Or.inl ⟨by rfl,?_⟩) hHeld ?_ ?_;rotate_left
           ·rintro w' ⟨s0,s1,s2⟩
            go_simp
            with_reducible rfl
           rotate_left
           ·simp only [Act.put,sB3_,sZ3_,sS3_,i64_w,i32_w]
            rfl
           refine one_ (i := 11) (N := some 28) (mB3_ 35 4095) rfl rfl (one_of HT_.out (by kernel_rfl)) (by decide) (fun K hK => ?_)
           refine goes_ Try.func58 (by kernel_rfl) rfl #[.slice (some ad114) y117.length c0_0,.string ((rd_T70 l0_0 x3_1).f0)] (by rfl) rfl rfl (by (try simp only [List.map_toArray,List.map_cons,List.map_nil]);first|done|rfl|(simp only [List.length_drop,List.length_take];rfl)) ?_
           with_reducible refine (spec_classNamed.calls k1 _ _ y117 ((rd_T70 l0_0 x3_1).f0) t121 _ ?side1 ?side2 A14.out).mono ?_
           (case side1 => repeat (first|exact (Kd.C_below HR120.out (by repeat (first|(with_reducible first|exact HB.out|apply below_alloc|apply pw_below_drewN|apply below_drew1|refine below_set ?_ GE112.out|refine below_set ?_ GE115.out)|exact HB.out)))|(with_reducible refine Kd.C_alloc ?_ _)|(with_reducible refine Kd.C_drewN ?_ _)|(with_reducible refine Kd.C_drew ?_)))
           (case side2 => exact HC120.out)
           rintro e w' ⟨rfl,⟨nd,rfl⟩⟩
           refine ⟨_,rfl,?_⟩
           refine hK.out _ _ ⟨(blk_cell BK115.out 0).trans rfl,(blk_cell BK115.out 1).trans rfl,(blk_cell BK112.out 0).trans rfl⟩ (fun hHeld => ?_)
           clear hK K
           refine norm_ (a' := ?_) ?_ ?_;rotate_left
           ·show Act.put _ (some 28) _ = _
            simp only [Act.put,sB3_,sZ3_,sS3_,i64_w,i32_w]
            rfl
           refine pure_ (i := 12) (N := some 29) (v := ?_) (a' := ?_) (mB3_ 35 8191) rfl rfl (any_of HT_.out (by kernel_rfl)) (fun _ _ _ h => h) (Or.inl ⟨by rfl,?_⟩) ?_ ?_;rotate_left
           ·intro w'
            go_simp
            with_reducible rfl
           rotate_left
           ·simp only [Act.put,sB3_,sZ3_,sS3_,i64_w,i32_w]
            rfl
           refine pure_ (i := 13) (N := some 30) (v := ?_) (a' := ?_) (mB3_ 35 16383) rfl rfl (any_of HT_.out (by kernel_rfl)) (fun _ _ _ h => h) (Or.inl ⟨by rfl,?_⟩) ?_ ?_;rotate_left
           ·intro w'
            go_simp
            with_reducible rfl
           rotate_left
           ·simp only [Act.put,sB3_,sZ3_,sS3_,i64_w,i32_w]
            rfl
           refine pure_ (i := 14) (N := some 31) (v := ?_) (a' := ?_) (mB3_ 35 32767) rfl rfl (any_of HT_.out (by kernel_rfl)) (fun _ _ _ h => h) (Or.inl ⟨by rfl,?_⟩) ?_ ?_;rotate_left
           ·intro w'
            go_simp
            with_reducible rfl
           rotate_left
           ·simp only [Act.put,sB3_,sZ3_,sS3_,i64_w,i32_w]
            rfl
           refine pure_ (i := 15) (N := some 32) (v := ?_) (a' := ?_) (mB3_ 35 65535) rfl rfl (any_of HT_.out (by kernel_rfl)) (fun _ _ _ h => h) (Or.inl ⟨by rfl,?_⟩) ?_ ?_;rotate_left
           ·intro w'
            go_simp
            with_reducible rfl
           rotate_left
           ·simp only [Act.put,sB3_,sZ3_,sS3_,i64_w,i32_w]
            rfl
           refine pure_ (i := 16) (N := some 33) (v := ?_) (a' := ?_) (mB3_ 35 131071) rfl rfl (any_of HT_.out (by kernel_rfl)) (fun _ _ _ h => h) (Or.inl ⟨by rfl,?_⟩) ?_ ?_;rotate_left
           ·intro w'
            go_simp
            with_reducible rfl
           rotate_left
           ·simp only [Act.put,sB3_,sZ3_,sS3_,i64_w,i32_w]
            rfl
           refine pure_ (i := 17) (N := some 34) (v := ?_) (a' := ?_) (mB3_ 35 262143) rfl rfl (any_of HT_.out (by kernel_rfl)) (fun _ _ _ h => h) (Or.inl ⟨by rfl,?_⟩) ?_ ?_;rotate_left
           ·intro w'
            go_simp
            with_reducible rfl
           rotate_left
           ·simp only [Act.put,sB3_,sZ3_,sS3_,i64_w,i32_w]
            rfl
           refine pure_ (i := 18) (N := some 35) (v := ?_) (a' := ?_) (mB3_ 35 524287) rfl rfl (any_of HT_.out (by kernel_rfl)) (fun _ _ _ h => h) (Or.inl ⟨by rfl,?_⟩) ?_ ?_;rotate_left
           ·intro w'
            go_simp
            with_reducible rfl
           rotate_left
           ·simp only [Act.put,sB3_,sZ3_,sS3_,i64_w,i32_w]
            rfl
           refine take_ (i := 19) (N := some 36) (v := ?_) (a' := ?_) (mB3_ 35 1048575) rfl rfl (take_ofW HT_.out HW_.out (by kernel_rfl)) (fun _ _ _ h => h) (Or.inl ⟨by rfl,?_⟩) hHeld ?_ ?_;rotate_left
           ·rintro w' ⟨s0,s1,s2⟩
            go_simp
            with_reducible rfl
           rotate_left
           ·simp only [Act.put,sB3_,sZ3_,sS3_,i64_w,i32_w]
            rfl
           refine pure_ (i := 20) (N := some 37) (v := ?_) (a' := ?_) (mB3_ 35 2097151) rfl rfl (any_of HT_.out (by kernel_rfl)) (fun _ _ _ h => h) (Or.inl ⟨by rfl,?_⟩) ?_ ?_;rotate_left
           ·intro w'
            go_simp
            with_reducible rfl
           rotate_left
           ·simp only [Act.put,sB3_,sZ3_,sS3_,i64_w,i32_w]
            rfl
           refine pure_ (i := 21) (N := some 38) (v := ?_) (a' := ?_) (mB3_ 35 4194303) rfl rfl (any_of HT_.out (by kernel_rfl)) (fun _ _ _ h => h) (Or.inl ⟨by rfl,?_⟩) ?_ ?_;rotate_left
           ·intro w'
            go_simp
            with_reducible rfl
           rotate_left
           ·simp only [Act.put,sB3_,sZ3_,sS3_,i64_w,i32_w]
            rfl
           refine pure_ (i := 22) (N := some 39) (v := ?_) (a' := ?_) (mB3_ 35 8388607) rfl rfl (any_of HT_.out (by kernel_rfl)) (fun _ _ _ h => h) (Or.inl ⟨by rfl,?_⟩) ?_ ?_;rotate_left
           ·intro w'
            go_simp
            with_reducible rfl
           rotate_left
           ·simp only [Act.put,sB3_,sZ3_,sS3_,i64_w,i32_w]
            rfl
           refine pure_ (i := 23) (N := some 40) (v := ?_) (a' := ?_) (mB3_ 35 16777215) rfl rfl (any_of HT_.out (by kernel_rfl)) (fun _ _ _ h => h) (Or.inl ⟨by rfl,?_⟩) ?_ ?_;rotate_left
           ·intro w'
            go_simp
            with_reducible rfl
           rotate_left
           ·simp only [Act.put,sB3_,sZ3_,sS3_,i64_w,i32_w]
            rfl
           refine pure_ (i := 24) (N := some 41) (v := undef) (a' := ?_) (mB3_ 35 33554431) rfl rfl (any_of HT_.out (by kernel_rfl)) (fun _ _ _ h => h) (Or.inr ⟨by rfl,rfl⟩) ?_ ?_;rotate_left
           ·simp only [Act.put,sB3_,sZ3_,sS3_,i64_w,i32_w]
            rfl
           refine pure_ (i := 25) (N := some 42) (v := undef) (a' := ?_) (mB3_ 35 67108863) rfl rfl (any_of HT_.out (by kernel_rfl)) (fun _ _ _ h => h) (Or.inr ⟨by rfl,rfl⟩) ?_ ?_;rotate_left
           ·simp only [Act.put,sB3_,sZ3_,sS3_,i64_w,i32_w]
            rfl
           refine pure_ (i := 26) (N := some 43) (v := undef) (a' := ?_) (mB3_ 35 134217727) rfl rfl (any_of HT_.out (by kernel_rfl)) (fun _ _ _ h => h) (Or.inr ⟨by rfl,rfl⟩) ?_ ?_;rotate_left
           ·simp only [Act.put,sB3_,sZ3_,sS3_,i64_w,i32_w]
            rfl
           refine pure_ (i := 27) (N := some 44) (v := undef) (a' := ?_) (mB3_ 35 268435455) rfl rfl (any_of HT_.out (by kernel_rfl)) (fun _ _ _ h => h) (Or.inr ⟨by rfl,rfl⟩) ?_ ?_;rotate_left
           ·simp only [Act.put,sB3_,sZ3_,sS3_,i64_w,i32_w]
            rfl
           refine pure_ (i := 28) (N := some 45) (v := undef) (a' := ?_) (mB3_ 35 536870911) rfl rfl (any_of HT_.out (by kernel_rfl)) (fun _ _ _ h => h) (Or.inr ⟨by rfl,rfl⟩) ?_ ?_;rotate_left
           ·simp only [Act.put,sB3_,sZ3_,sS3_,i64_w,i32_w]
            rfl
           refine pure_ (i := 29) (N := some 46) (v := undef) (a' := ?_) (mB3_ 35 1073741823) rfl rfl (any_of HT_.out (by kernel_rfl)) (fun _ _ _ h => h) (Or.inr ⟨by rfl,rfl⟩) ?_ ?_;rotate_left
           ·simp only [Act.put,sB3_,sZ3_,sS3_,i64_w,i32_w]
            rfl
           refine pure_ (i := 30) (N := some 47) (v := undef) (a' := ?_) (mB3_ 35 2147483647) rfl rfl (any_of HT_.out (by kernel_rfl)) (fun _ _ _ h => h) (Or.inr ⟨by rfl,rfl⟩) ?_ ?_;rotate_left
           ·simp only [Act.put,sB3_,sZ3_,sS3_,i64_w,i32_w]
            rfl
           refine pure_ (i := 31) (N := some 48) (v := undef) (a' := ?_) (mB3_ 35 4294967295) rfl rfl (any_of HT_.out (by kernel_rfl)) (fun _ _ _ h => h) (Or.inr ⟨by rfl,rfl⟩) ?_ ?_;rotate_left
           ·simp only [Act.put,sB3_,sZ3_,sS3_,i64_w,i32_w]
            rfl
           refine pure_ (i := 32) (N := some 49) (v := undef) (a' := ?_) (mB3_ 35 8589934591) rfl rfl (any_of HT_.out (by kernel_rfl)) (fun _ _ _ h => h) (Or.inr ⟨by rfl,rfl⟩) ?_ ?_;rotate_left
           ·simp only [Act.put,sB3_,sZ3_,sS3_,i64_w,i32_w]
            rfl
           refine pure_ (i := 33) (N := some 50) (v := undef) (a' := ?_) (mB3_ 35 17179869183) rfl rfl (any_of HT_.out (by kernel_rfl)) (fun _ _ _ h => h) (Or.inr ⟨by rfl,rfl⟩) ?_ ?_;rotate_left
           ·simp only [Act.put,sB3_,sZ3_,sS3_,i64_w,i32_w]
            rfl
           refine pure_ (i := 34) (N := some 51) (v := ?_) (a' := ?_) (mB3_ 35 34359738367) rfl rfl (any_of HT_.out (by kernel_rfl)) (fun _ _ _ h => h) (Or.inl ⟨by rfl,?_⟩) ?_ ?_;rotate_left
           ·intro w'
            go_simp
            with_reducible rfl
           rotate_left
           ·simp only [Act.put,sB3_,sZ3_,sS3_,i64_w,i32_w]
            rfl
           refine done_ (done_of HT_.out (by kernel_rfl)) ?_
           try go_wp2
           go_meet
           case rel => exact ⟨_,(true),(by first|rfl|(simp;done)|(simp [*];done)),H',⟨by have := HK1.out;first|omega|exact Nat.le_refl _⟩,⟨by (with_reducible repeat (first|refine blk_drewN ?_ _|refine blk_drew ?_|refine blk_alloc ?_ _));exact BK112.out⟩,⟨by (with_reducible repeat (first|refine blk_drewN ?_ _|refine blk_drew ?_|refine blk_alloc ?_ _));exact BK115.out⟩,⟨by repeat (first|(with_reducible first|exact HB.out|apply below_alloc|apply pw_below_drewN|apply below_drew1|refine below_set ?_ GE112.out|refine below_set ?_ GE115.out)|exact HB.out)⟩⟩
         ·rw [if_neg c19] at H
          have c19b0 : (x3_1 == 0) = false := beq_eq_false_iff_ne.mpr c19
          have c19b1 : (x3_1 != 0) = true := bne_iff_ne.mpr c19
          by_cases c32 : x3_1 > 0
          ·rw [if_pos c32] at H
           have c32b0 : decide (0 < x3_1) = true := decide_eq_true c32
           clear c32
           replace H := Option.bind_eq_some_iff.mp H
           obtain ⟨t123,A330,H⟩ := H
           replace H : (spec_validTree.j1 k1 x3_1 (!t123) l0_0) = some r := H
           have A33 := Aside0.mk A330
           clear A330
           have H' := Aside0.mk H
           clear H
           try go_wp2
           have n0_ : Aside0 (((w7.setCell ⟨gb115,0,none⟩ (.string ((rd_T70 l0_0 x3_1).f0))).setCell ⟨gb115,1,none⟩ (.int .i64 ((rd_T70 l0_0 x3_1).f1))).heap[gb112]? = some (.cells #[.slice (some ad114) l0_0.length c0_0] 31 (0,0))) := ⟨by (with_reducible repeat (first|refine blk_drewN ?_ _|refine blk_drew ?_|refine blk_alloc ?_ _));refine blk_far ?_ NB112_115.out _;(with_reducible repeat (first|refine blk_drewN ?_ _|refine blk_drew ?_|refine blk_alloc ?_ _));refine blk_far ?_ NB112_115.out _;(with_reducible repeat (first|refine blk_drewN ?_ _|refine blk_drew ?_|refine blk_alloc ?_ _));exact BK112.out⟩
           have n1_ : Aside0 (((w7.setCell ⟨gb115,0,none⟩ (.string ((rd_T70 l0_0 x3_1).f0))).setCell ⟨gb115,1,none⟩ (.int .i64 ((rd_T70 l0_0 x3_1).f1))).heap[gb115]? = some (.cells #[.string ((rd_T70 l0_0 x3_1).f0),.int .i64 ((rd_T70 l0_0 x3_1).f1)] 70 (0,0))) := ⟨by (with_reducible repeat (first|refine blk_drewN ?_ _|refine blk_drew ?_|refine blk_alloc ?_ _));refine blk_put (cs := #[.string ((rd_T70 l0_0 x3_1).f0),.int .i64 0]) ?_ 1 _ rfl;(with_reducible repeat (first|refine blk_drewN ?_ _|refine blk_drew ?_|refine blk_alloc ?_ _));refine blk_put (cs := #[.string (⟨#[]⟩ : ByteArray),.int .i64 0]) ?_ 0 _ rfl;(with_reducible repeat (first|refine blk_drewN ?_ _|refine blk_drew ?_|refine blk_alloc ?_ _));exact BK115.out⟩
           have n2_ : Aside0 (Below w.heap.size w ((w7.setCell ⟨gb115,0,none⟩ (.string ((rd_T70 l0_0 x3_1).f0))).setCell ⟨gb115,1,none⟩ (.int .i64 ((rd_T70 l0_0 x3_1).f1)))) := ⟨by repeat (first|(with_reducible first|exact HB.out|apply below_alloc|apply pw_below_drewN|apply below_drew1|refine below_set ?_ GE112.out|refine below_set ?_ GE115.out)|exact HB.out)⟩
           (try clear BK112)
           (try clear BK115)
           (try clear HB)
           generalize ((w7.setCell ⟨gb115,0,none⟩ (.string ((rd_T70 l0_0 x3_1).f0))).setCell ⟨gb115,1,none⟩ (.int .i64 ((rd_T70 l0_0 x3_1).f1))) = w34 at n0_ n1_ n2_ ⊢
           have BK112 := n0_
           have BK115 := n1_
           have HB := n2_
           clear n0_ n1_ n2_
           have n0_ := Aside0.mk (blk_drew BK112.out)
           have n1_ := Aside0.mk (blk_drew BK115.out)
           have n2_ := Aside0.mk (below_drew1 HB.out)
           clear BK112
           clear BK115
           clear HB
           have BK112 := n0_
           have BK115 := n1_
           have HB := n2_
           clear n0_ n1_ n2_
           refine start_ (n := 35) (S := fun w' => w'.cell? ⟨gb115,0,none⟩ = some (.string ((rd_T70 l0_0 x3_1).f0)) ∧ w'.cell? ⟨gb115,1,none⟩ = some (.int .i64 ((rd_T70 l0_0 x3_1).f1)) ∧ w'.cell? ⟨gb112,0,none⟩ = some (.slice (some ad114) l0_0.length c0_0)) (ds := []) #[false,false,false,false,false,false,false,false,false,false,false,false,false,false,false,false,false,false,false,false,false,false,false,false,false,false,false,false,false,false,false,false,false,false,false] (by kernel_rfl) rfl rfl ⟨(blk_cell BK115.out 0).trans rfl,(blk_cell BK115.out 1).trans rfl,(blk_cell BK112.out 0).trans rfl⟩ (fun hHeld => ?_);refine with_tabW spec_validTree.tab5 spec_validTree.bits5 (fun HT_ HW_ => ?_)
           generalize w34.drew = w35 at BK112 BK115 HB hHeld ⊢
           refine pure_ (i := 0) (N := some 17) (v := ?_) (a' := ?_) (mB3_ 35 1) rfl rfl (any_of HT_.out (by kernel_rfl)) (fun _ _ _ h => h) (Or.inl ⟨by rfl,?_⟩) ?_ ?_;rotate_left
           ·intro w'
            go_simp
            with_reducible rfl
           rotate_left
           ·simp only [Act.put,sB3_,sZ3_,sS3_,i64_w,i32_w]
            rfl
           refine take_ (i := 1) (N := some 18) (v := ?_) (a' := ?_) (mB3_ 35 3) rfl rfl (take_ofW HT_.out HW_.out (by kernel_rfl)) (fun _ _ _ h => h) (Or.inl ⟨by rfl,?_⟩) hHeld ?_ ?_;rotate_left
           ·rintro w' ⟨s0,s1,s2⟩
            go_simp
            with_reducible rfl
           rotate_left
           ·simp only [Act.put,sB3_,sZ3_,sS3_,i64_w,i32_w]
            rfl
           refine one_ (i := 2) (N := some 19) (mB3_ 35 7) rfl rfl (one_of HT_.out (by kernel_rfl)) (by decide) (fun K hK => ?_)
           refine goes_ Try.func57 (by kernel_rfl) rfl #[.string ((rd_T70 l0_0 x3_1).f0)] (by rfl) rfl rfl (by (try simp only [List.map_toArray,List.map_cons,List.map_nil]);first|done|rfl|(simp only [List.length_drop,List.length_take];rfl)) ?_
           with_reducible refine (spec_validName.calls k1 ((rd_T70 l0_0 x3_1).f0) true _ A10.out).mono ?_
           rintro e w' ⟨rfl,⟨nd,rfl⟩⟩
           refine ⟨_,rfl,?_⟩
           have q36 : (x3_1 : Int) ≤ ((l0_0.length : Int) : Int) := of_decide_eq_true (by first|(with_reducible assumption)|assumption)
           obtain ⟨i036,hi036,_,hsz36,_⟩ := info_parts info70
           have hroom36 : l0_0.length ≤ c0_0 := HC0_0.out
           have hC36 : Kd.C k70 _ (some ad114) l0_0.length l0_0 := HR0_0.out
           have hcut36 := cut_to (P := Try.prog) 29 70 .i64 Try.underlying29 hi036 (some ad114) l0_0.length c0_0 x3_1 (of_decide_eq_true (by first|(with_reducible assumption)|assumption)) q36 hroom36
           have hr36 := Kd.C_take (m := (x3_1 : Int).toNat) hC36 (by omega)
           have hy36 : y117.length = (x3_1 : Int).toNat := (by rw [Ny117.out,List.length_take];omega)
           rw [← Ny117.out] at hr36
           rw [← hy36] at hcut36
           have HR120 := Aside0.mk hr36
           have HC120 := Aside0.mk (show y117.length ≤ c0_0 from by omega)
           clear hr36 hC36 hroom36 hi036 hsz36
           have KY36 := Aside0.mk hy36
           clear hy36
           replace q36 := eq_true q36
           refine hK.out _ _ ⟨(blk_cell BK115.out 0).trans rfl,(blk_cell BK115.out 1).trans rfl,(blk_cell BK112.out 0).trans rfl⟩ (fun hHeld => ?_)
           clear hK K
           refine norm_ (a' := ?_) ?_ ?_;rotate_left
           ·show Act.put _ (some 19) _ = _
            simp only [Act.put,sB3_,sZ3_,sS3_,i64_w,i32_w]
            rfl
           refine pure_ (i := 3) (N := some 20) (v := ?_) (a' := ?_) (mB3_ 35 15) rfl rfl (any_of HT_.out (by kernel_rfl)) (fun _ _ _ h => h) (Or.inl ⟨by rfl,?_⟩) ?_ ?_;rotate_left
           ·intro w'
            go_simp
            with_reducible rfl
           rotate_left
           ·simp only [Act.put,sB3_,sZ3_,sS3_,i64_w,i32_w]
            rfl
           refine pure_ (i := 4) (N := some 21) (v := ?_) (a' := ?_) (mB3_ 35 31) rfl rfl (any_of HT_.out (by kernel_rfl)) (fun _ _ _ h => h) (Or.inl ⟨by rfl,?_⟩) ?_ ?_;rotate_left
           ·intro w'
            go_simp
            with_reducible rfl
           rotate_left
           ·simp only [Act.put,sB3_,sZ3_,sS3_,i64_w,i32_w]
            rfl
           refine pure_ (i := 5) (N := some 22) (v := ?_) (a' := ?_) (mB3_ 35 63) rfl rfl (any_of HT_.out (by kernel_rfl)) (fun _ _ _ h => h) (Or.inl ⟨by rfl,?_⟩) ?_ ?_;rotate_left
           ·intro w'
            go_simp
            with_reducible rfl
           rotate_left
           ·simp only [Act.put,sB3_,sZ3_,sS3_,i64_w,i32_w]
            rfl
           refine pure_ (i := 7) (N := some 24) (v := ?_) (a' := ?_) (mB3_ 35 191) rfl rfl (any_of HT_.out (by kernel_rfl)) (fun _ _ _ h => h) (Or.inl ⟨by rfl,?_⟩) ?_ ?_;rotate_left
           ·intro w'
            go_simp
            with_reducible rfl
           rotate_left
           ·simp only [Act.put,sB3_,sZ3_,sS3_,i64_w,i32_w]
            rfl
           refine pure_ (i := 9) (N := some 26) (v := ?_) (a' := ?_) (mB3_ 35 703) rfl rfl (any_of HT_.out (by kernel_rfl)) (fun _ _ _ h => h) (Or.inl ⟨by rfl,?_⟩) ?_ ?_;rotate_left
           ·intro w'
            go_simp
            with_reducible rfl
           rotate_left
           ·simp only [Act.put,sB3_,sZ3_,sS3_,i64_w,i32_w]
            rfl
           refine take_ (i := 6) (N := some 23) (v := ?_) (a' := ?_) (mB3_ 35 767) rfl rfl (take_ofW HT_.out HW_.out (by kernel_rfl)) (fun _ _ _ h => h) (Or.inl ⟨by rfl,?_⟩) hHeld ?_ ?_;rotate_left
           ·rintro w' ⟨s0,s1,s2⟩
            go_simp
            with_reducible rfl
           rotate_left
           ·simp only [Act.put,sB3_,sZ3_,sS3_,i64_w,i32_w]
            rfl
           refine pure_ (i := 8) (N := some 25) (v := ?_) (a' := ?_) (mB3_ 35 1023) rfl rfl (any_of HT_.out (by kernel_rfl)) (fun _ _ _ h => h) (Or.inl ⟨by rfl,?_⟩) ?_ ?_;rotate_left
           ·intro w'
            go_simp
            with_reducible rfl
           rotate_left
           ·simp only [Act.put,sB3_,sZ3_,sS3_,i64_w,i32_w]
            rfl
           refine take_ (i := 10) (N := some 27) (v := ?_) (a' := ?_) (mB3_ 35 2047) rfl rfl (take_ofW HT_.out HW_.out (by kernel_rfl)) (fun _ _ _ h => h) (Or.inl ⟨by rfl,?_⟩) hHeld ?_ ?_;rotate_left
           ·rintro w' ⟨s0,s1,s2⟩
            go_simp
            with_reducible rfl
           rotate_left
           ·simp only [Act.put,sB3_,sZ3_,sS3_,i64_w,i32_w]
            rfl
           refine one_ (i := 11) (N := some 28) (mB3_ 35 4095) rfl rfl (one_of HT_.out (by kernel_rfl)) (by decide) (fun K hK => ?_)
           refine goes_ Try.func58 (by kernel_rfl) rfl #[.slice (some ad114) y117.length c0_0,.string ((rd_T70 l0_0 x3_1).f0)] (by rfl) rfl rfl (by (try simp only [List.map_toArray,List.map_cons,List.map_nil]);first|done|rfl|(simp only [List.length_drop,List.length_take];rfl)) ?_
           with_reducible refine (spec_classNamed.calls k1 _ _ y117 ((rd_T70 l0_0 x3_1).f0) t121 _ ?side1 ?side2 A14.out).mono ?_
           (case side1 => repeat (first|exact (Kd.C_below HR120.out (by repeat (first|(with_reducible first|exact HB.out|apply below_alloc|apply pw_below_drewN|apply below_drew1|refine below_set ?_ GE112.out|refine below_set ?_ GE115.out)|exact HB.out)))|(with_reducible refine Kd.C_alloc ?_ _)|(with_reducible refine Kd.C_drewN ?_ _)|(with_reducible refine Kd.C_drew ?_)))
           (case side2 => exact HC120.out)
           rintro e w' ⟨rfl,⟨nd,rfl⟩⟩
           refine ⟨_,rfl,?_⟩
           refine hK.out _ _ ⟨(blk_cell BK115.out 0).trans rfl,(blk_cell BK115.out 1).trans rfl,(blk_cell BK112.out 0).trans rfl⟩ (fun hHeld => ?_)
           clear hK K
           refine norm_ (a' := ?_) ?_ ?_;rotate_left
           ·show Act.put _ (some 28) _ = _
            simp only [Act.put,sB3_,sZ3_,sS3_,i64_w,i32_w]
            rfl
           refine pure_ (i := 12) (N := some 29) (v := ?_) (a' := ?_) (mB3_ 35 8191) rfl rfl (any_of HT_.out (by kernel_rfl)) (fun _ _ _ h => h) (Or.inl ⟨by rfl,?_⟩) ?_ ?_;rotate_left
           ·intro w'
            go_simp
            with_reducible rfl
           rotate_left
           ·simp only [Act.put,sB3_,sZ3_,sS3_,i64_w,i32_w]
            rfl
           refine pure_ (i := 13) (N := some 30) (v := ?_) (a' := ?_) (mB3_ 35 16383) rfl rfl (any_of HT_.out (by kernel_rfl)) (fun _ _ _ h => h) (Or.inl ⟨by rfl,?_⟩) ?_ ?_;rotate_left
           ·intro w'
            go_simp
            with_reducible rfl
           rotate_left
           ·simp only [Act.put,sB3_,sZ3_,sS3_,i64_w,i32_w]
            rfl
           refine pure_ (i := 14) (N := some 31) (v := ?_) (a' := ?_) (mB3_ 35 32767) rfl rfl (any_of HT_.out (by kernel_rfl)) (fun _ _ _ h => h) (Or.inl ⟨by rfl,?_⟩) ?_ ?_;rotate_left
           ·intro w'
            go_simp
            with_reducible rfl
           rotate_left
           ·simp only [Act.put,sB3_,sZ3_,sS3_,i64_w,i32_w]
            rfl
           refine pure_ (i := 15) (N := some 32) (v := ?_) (a' := ?_) (mB3_ 35 65535) rfl rfl (any_of HT_.out (by kernel_rfl)) (fun _ _ _ h => h) (Or.inl ⟨by rfl,?_⟩) ?_ ?_;rotate_left
           ·intro w'
            go_simp
            with_reducible rfl
           rotate_left
           ·simp only [Act.put,sB3_,sZ3_,sS3_,i64_w,i32_w]
            rfl
           refine pure_ (i := 16) (N := some 33) (v := ?_) (a' := ?_) (mB3_ 35 131071) rfl rfl (any_of HT_.out (by kernel_rfl)) (fun _ _ _ h => h) (Or.inl ⟨by rfl,?_⟩) ?_ ?_;rotate_left
           ·intro w'
            go_simp
            with_reducible rfl
           rotate_left
           ·simp only [Act.put,sB3_,sZ3_,sS3_,i64_w,i32_w]
            rfl
           refine pure_ (i := 17) (N := some 34) (v := ?_) (a' := ?_) (mB3_ 35 262143) rfl rfl (any_of HT_.out (by kernel_rfl)) (fun _ _ _ h => h) (Or.inl ⟨by rfl,?_⟩) ?_ ?_;rotate_left
           ·intro w'
            go_simp
            with_reducible rfl
           rotate_left
           ·simp only [Act.put,sB3_,sZ3_,sS3_,i64_w,i32_w]
            rfl
           refine pure_ (i := 18) (N := some 35) (v := undef) (a' := ?_) (mB3_ 35 524287) rfl rfl (any_of HT_.out (by kernel_rfl)) (fun _ _ _ h => h) (Or.inr ⟨by rfl,rfl⟩) ?_ ?_;rotate_left
           ·simp only [Act.put,sB3_,sZ3_,sS3_,i64_w,i32_w]
            rfl
           refine pure_ (i := 19) (N := some 36) (v := undef) (a' := ?_) (mB3_ 35 1048575) rfl rfl (any_of HT_.out (by kernel_rfl)) (fun _ _ _ h => h) (Or.inr ⟨by rfl,rfl⟩) ?_ ?_;rotate_left
           ·simp only [Act.put,sB3_,sZ3_,sS3_,i64_w,i32_w]
            rfl
           refine pure_ (i := 20) (N := some 37) (v := undef) (a' := ?_) (mB3_ 35 2097151) rfl rfl (any_of HT_.out (by kernel_rfl)) (fun _ _ _ h => h) (Or.inr ⟨by rfl,rfl⟩) ?_ ?_;rotate_left
           ·simp only [Act.put,sB3_,sZ3_,sS3_,i64_w,i32_w]
            rfl
           refine pure_ (i := 21) (N := some 38) (v := ?_) (a' := ?_) (mB3_ 35 4194303) rfl rfl (any_of HT_.out (by kernel_rfl)) (fun _ _ _ h => h) (Or.inl ⟨by rfl,?_⟩) ?_ ?_;rotate_left
           ·intro w'
            go_simp
            with_reducible rfl
           rotate_left
           ·simp only [Act.put,sB3_,sZ3_,sS3_,i64_w,i32_w]
            rfl
           refine pure_ (i := 22) (N := some 39) (v := ?_) (a' := ?_) (mB3_ 35 8388607) rfl rfl (any_of HT_.out (by kernel_rfl)) (fun _ _ _ h => h) (Or.inl ⟨by rfl,?_⟩) ?_ ?_;rotate_left
           ·intro w'
            go_simp
            with_reducible rfl
           rotate_left
           ·simp only [Act.put,sB3_,sZ3_,sS3_,i64_w,i32_w]
            rfl
           refine pure_ (i := 23) (N := some 40) (v := ?_) (a' := ?_) (mB3_ 35 16777215) rfl rfl (any_of HT_.out (by kernel_rfl)) (fun _ _ _ h => h) (Or.inl ⟨by rfl,?_⟩) ?_ ?_;rotate_left
           ·intro w'
            go_simp
            with_reducible rfl
           rotate_left
           ·simp only [Act.put,sB3_,sZ3_,sS3_,i64_w,i32_w]
            rfl
           refine pure_ (i := 24) (N := some 41) (v := ?_) (a' := ?_) (mB3_ 35 33554431) rfl rfl (any_of HT_.out (by kernel_rfl)) (fun _ _ _ h => h) (Or.inl ⟨by rfl,?_⟩) ?_ ?_;rotate_left
           ·intro w'
            go_simp
            with_reducible rfl
           rotate_left
           ·simp only [Act.put,sB3_,sZ3_,sS3_,i64_w,i32_w]
            rfl
           refine pure_ (i := 25) (N := some 42) (v := ?_) (a' := ?_) (mB3_ 35 67108863) rfl rfl (any_of HT_.out (by kernel_rfl)) (fun _ _ _ h => h) (Or.inl ⟨by rfl,?_⟩) ?_ ?_;rotate_left
           ·intro w'
            go_simp
            with_reducible rfl
           rotate_left
           ·simp only [Act.put,sB3_,sZ3_,sS3_,i64_w,i32_w]
            rfl
           refine pure_ (i := 26) (N := some 43) (v := ?_) (a' := ?_) (mB3_ 35 134217727) rfl rfl (any_of HT_.out (by kernel_rfl)) (fun _ _ _ h => h) (Or.inl ⟨by rfl,?_⟩) ?_ ?_;rotate_left
           ·intro w'
            go_simp
            with_reducible rfl
           rotate_left
           ·simp only [Act.put,sB3_,sZ3_,sS3_,i64_w,i32_w]
            rfl
           refine pure_ (i := 27) (N := some 44) (v := ?_) (a' := ?_) (mB3_ 35 268435455) rfl rfl (any_of HT_.out (by kernel_rfl)) (fun _ _ _ h => h) (Or.inl ⟨by rfl,?_⟩) ?_ ?_;rotate_left
           ·intro w'
            go_simp
            with_reducible rfl
           rotate_left
           ·simp only [Act.put,sB3_,sZ3_,sS3_,i64_w,i32_w]
            rfl
           refine pure_ (i := 29) (N := some 46) (v := ?_) (a' := ?_) (mB3_ 35 805306367) rfl rfl (any_of HT_.out (by kernel_rfl)) (fun _ _ _ h => h) (Or.inl ⟨by rfl,?_⟩) ?_ ?_;rotate_left
           ·intro w'
            go_simp
            with_reducible rfl
           rotate_left
           ·simp only [Act.put,sB3_,sZ3_,sS3_,i64_w,i32_w]
            rfl
           refine pure_ (i := 30) (N := some 47) (v := ?_) (a' := ?_) (mB3_ 35 1879048191) rfl rfl (any_of HT_.out (by kernel_rfl)) (fun _ _ _ h => h) (Or.inl ⟨by rfl,?_⟩) ?_ ?_;rotate_left
           ·intro w'
            go_simp
            with_reducible rfl
           rotate_left
           ·simp only [Act.put,sB3_,sZ3_,sS3_,i64_w,i32_w]
            rfl
           refine take_ (i := 28) (N := some 45) (v := ?_) (a' := ?_) (mB3_ 35 2147483647) rfl rfl (take_ofW HT_.out HW_.out (by kernel_rfl)) (fun _ _ _ h => h) (Or.inl ⟨by rfl,?_⟩) hHeld ?_ ?_;rotate_left
           ·rintro w' ⟨s0,s1,s2⟩
            go_simp
            with_reducible rfl
           rotate_left
           ·simp only [Act.put,sB3_,sZ3_,sS3_,i64_w,i32_w]
            rfl
           refine one_ (i := 31) (N := some 48) (mB3_ 35 4294967295) rfl rfl (one_of HT_.out (by kernel_rfl)) (by decide) (fun K hK => ?_)
           refine goes_ Try.func38 (by kernel_rfl) rfl #[.int .i64 ((rd_T70 l0_0 x3_1).f1),.int .i64 0,.int .i64 (wrap64 (x3_1 - 1))] (by rfl) rfl rfl (by (try simp only [List.map_toArray,List.map_cons,List.map_nil]);first|done|rfl|(simp only [List.length_drop,List.length_take];rfl)) ?_
           with_reducible refine (spec_inRange.calls ((rd_T70 l0_0 x3_1).f1) 0 (wrap64 (x3_1 - 1)) t123 _ A33.out).mono ?_
           rintro e w' ⟨rfl,⟨nd,rfl⟩⟩
           refine ⟨_,rfl,?_⟩
           refine hK.out _ _ ⟨(blk_cell BK115.out 0).trans rfl,(blk_cell BK115.out 1).trans rfl,(blk_cell BK112.out 0).trans rfl⟩ (fun hHeld => ?_)
           clear hK K
           refine norm_ (a' := ?_) ?_ ?_;rotate_left
           ·show Act.put _ (some 48) _ = _
            simp only [Act.put,sB3_,sZ3_,sS3_,i64_w,i32_w]
            rfl
           refine pure_ (i := 32) (N := some 49) (v := ?_) (a' := ?_) (mB3_ 35 8589934591) rfl rfl (any_of HT_.out (by kernel_rfl)) (fun _ _ _ h => h) (Or.inl ⟨by rfl,?_⟩) ?_ ?_;rotate_left
           ·intro w'
            go_simp
            with_reducible rfl
           rotate_left
           ·simp only [Act.put,sB3_,sZ3_,sS3_,i64_w,i32_w]
            rfl
           refine pure_ (i := 33) (N := some 50) (v := ?_) (a' := ?_) (mB3_ 35 17179869183) rfl rfl (any_of HT_.out (by kernel_rfl)) (fun _ _ _ h => h) (Or.inl ⟨by rfl,?_⟩) ?_ ?_;rotate_left
           ·intro w'
            go_simp
            with_reducible rfl
           rotate_left
           ·simp only [Act.put,sB3_,sZ3_,sS3_,i64_w,i32_w]
            rfl
           refine pure_ (i := 34) (N := some 51) (v := ?_) (a' := ?_) (mB3_ 35 34359738367) rfl rfl (any_of HT_.out (by kernel_rfl)) (fun _ _ _ h => h) (Or.inl ⟨by rfl,?_⟩) ?_ ?_;rotate_left
           ·intro w'
            go_simp
            with_reducible rfl
           rotate_left
           ·simp only [Act.put,sB3_,sZ3_,sS3_,i64_w,i32_w]
            rfl
           refine done_ (done_of HT_.out (by kernel_rfl)) ?_
           try go_wp2
           go_meet
           case rel => exact ⟨_,(!t123),(by first|rfl|(simp;done)|(simp [*];done)),H',⟨by have := HK1.out;first|omega|exact Nat.le_refl _⟩,⟨by (with_reducible repeat (first|refine blk_drewN ?_ _|refine blk_drew ?_|refine blk_alloc ?_ _));exact BK112.out⟩,⟨by (with_reducible repeat (first|refine blk_drewN ?_ _|refine blk_drew ?_|refine blk_alloc ?_ _));exact BK115.out⟩,⟨by repeat (first|(with_reducible first|exact HB.out|apply below_alloc|apply pw_below_drewN|apply below_drew1|refine below_set ?_ GE112.out|refine below_set ?_ GE115.out)|exact HB.out)⟩⟩
          ·rw [if_neg c32] at H
           have c32b0 : decide (0 < x3_1) = false := decide_eq_false c32
           clear c32
           have H' := Aside0.mk H
           clear H
           try go_wp2
           have n0_ : Aside0 (((w7.setCell ⟨gb115,0,none⟩ (.string ((rd_T70 l0_0 x3_1).f0))).setCell ⟨gb115,1,none⟩ (.int .i64 ((rd_T70 l0_0 x3_1).f1))).heap[gb112]? = some (.cells #[.slice (some ad114) l0_0.length c0_0] 31 (0,0))) := ⟨by (with_reducible repeat (first|refine blk_drewN ?_ _|refine blk_drew ?_|refine blk_alloc ?_ _));refine blk_far ?_ NB112_115.out _;(with_reducible repeat (first|refine blk_drewN ?_ _|refine blk_drew ?_|refine blk_alloc ?_ _));refine blk_far ?_ NB112_115.out _;(with_reducible repeat (first|refine blk_drewN ?_ _|refine blk_drew ?_|refine blk_alloc ?_ _));exact BK112.out⟩
           have n1_ : Aside0 (((w7.setCell ⟨gb115,0,none⟩ (.string ((rd_T70 l0_0 x3_1).f0))).setCell ⟨gb115,1,none⟩ (.int .i64 ((rd_T70 l0_0 x3_1).f1))).heap[gb115]? = some (.cells #[.string ((rd_T70 l0_0 x3_1).f0),.int .i64 ((rd_T70 l0_0 x3_1).f1)] 70 (0,0))) := ⟨by (with_reducible repeat (first|refine blk_drewN ?_ _|refine blk_drew ?_|refine blk_alloc ?_ _));refine blk_put (cs := #[.string ((rd_T70 l0_0 x3_1).f0),.int .i64 0]) ?_ 1 _ rfl;(with_reducible repeat (first|refine blk_drewN ?_ _|refine blk_drew ?_|refine blk_alloc ?_ _));refine blk_put (cs := #[.string (⟨#[]⟩ : ByteArray),.int .i64 0]) ?_ 0 _ rfl;(with_reducible repeat (first|refine blk_drewN ?_ _|refine blk_drew ?_|refine blk_alloc ?_ _));exact BK115.out⟩
           have n2_ : Aside0 (Below w.heap.size w ((w7.setCell ⟨gb115,0,none⟩ (.string ((rd_T70 l0_0 x3_1).f0))).setCell ⟨gb115,1,none⟩ (.int .i64 ((rd_T70 l0_0 x3_1).f1)))) := ⟨by repeat (first|(with_reducible first|exact HB.out|apply below_alloc|apply pw_below_drewN|apply below_drew1|refine below_set ?_ GE112.out|refine below_set ?_ GE115.out)|exact HB.out)⟩
           (try clear BK112)
           (try clear BK115)
           (try clear HB)
           generalize ((w7.setCell ⟨gb115,0,none⟩ (.string ((rd_T70 l0_0 x3_1).f0))).setCell ⟨gb115,1,none⟩ (.int .i64 ((rd_T70 l0_0 x3_1).f1))) = w37 at n0_ n1_ n2_ ⊢
           have BK112 := n0_
           have BK115 := n1_
           have HB := n2_
           clear n0_ n1_ n2_
           have n0_ := Aside0.mk (blk_drew BK112.out)
           have n1_ := Aside0.mk (blk_drew BK115.out)
           have n2_ := Aside0.mk (below_drew1 HB.out)
           clear BK112
           clear BK115
           clear HB
           have BK112 := n0_
           have BK115 := n1_
           have HB := n2_
           clear n0_ n1_ n2_
           refine start_ (n := 35) (S := fun w' => w'.cell? ⟨gb115,0,none⟩ = some (.string ((rd_T70 l0_0 x3_1).f0)) ∧ w'.cell? ⟨gb115,1,none⟩ = some (.int .i64 ((rd_T70 l0_0 x3_1).f1)) ∧ w'.cell? ⟨gb112,0,none⟩ = some (.slice (some ad114) l0_0.length c0_0)) (ds := []) #[false,false,false,false,false,false,false,false,false,false,false,false,false,false,false,false,false,false,false,false,false,false,false,false,false,false,false,false,false,false,false,false,false,false,false] (by kernel_rfl) rfl rfl ⟨(blk_cell BK115.out 0).trans rfl,(blk_cell BK115.out 1).trans rfl,(blk_cell BK112.out 0).trans rfl⟩ (fun hHeld => ?_);refine with_tabW spec_validTree.tab5 spec_validTree.bits5 (fun HT_ HW_ => ?_)
           generalize w37.drew = w38 at BK112 BK115 HB hHeld ⊢
           refine pure_ (i := 0) (N := some 17) (v := ?_) (a' := ?_) (mB3_ 35 1) rfl rfl (any_of HT_.out (by kernel_rfl)) (fun _ _ _ h => h) (Or.inl ⟨by rfl,?_⟩) ?_ ?_;rotate_left
           ·intro w'
            go_simp
            with_reducible rfl
           rotate_left
           ·simp only [Act.put,sB3_,sZ3_,sS3_,i64_w,i32_w]
            rfl
           refine take_ (i := 1) (N := some 18) (v := ?_) (a' := ?_) (mB3_ 35 3) rfl rfl (take_ofW HT_.out HW_.out (by kernel_rfl)) (fun _ _ _ h => h) (Or.inl ⟨by rfl,?_⟩) hHeld ?_ ?_;rotate_left
           ·rintro w' ⟨s0,s1,s2⟩
            go_simp
            with_reducible rfl
           rotate_left
           ·simp only [Act.put,sB3_,sZ3_,sS3_,i64_w,i32_w]
            rfl
           refine one_ (i := 2) (N := some 19) (mB3_ 35 7) rfl rfl (one_of HT_.out (by kernel_rfl)) (by decide) (fun K hK => ?_)
           refine goes_ Try.func57 (by kernel_rfl) rfl #[.string ((rd_T70 l0_0 x3_1).f0)] (by rfl) rfl rfl (by (try simp only [List.map_toArray,List.map_cons,List.map_nil]);first|done|rfl|(simp only [List.length_drop,List.length_take];rfl)) ?_
           with_reducible refine (spec_validName.calls k1 ((rd_T70 l0_0 x3_1).f0) true _ A10.out).mono ?_
           rintro e w' ⟨rfl,⟨nd,rfl⟩⟩
           refine ⟨_,rfl,?_⟩
           have q39 : (x3_1 : Int) ≤ ((l0_0.length : Int) : Int) := of_decide_eq_true (by first|(with_reducible assumption)|assumption)
           obtain ⟨i039,hi039,_,hsz39,_⟩ := info_parts info70
           have hroom39 : l0_0.length ≤ c0_0 := HC0_0.out
           have hC39 : Kd.C k70 _ (some ad114) l0_0.length l0_0 := HR0_0.out
           have hcut39 := cut_to (P := Try.prog) 29 70 .i64 Try.underlying29 hi039 (some ad114) l0_0.length c0_0 x3_1 (of_decide_eq_true (by first|(with_reducible assumption)|assumption)) q39 hroom39
           have hr39 := Kd.C_take (m := (x3_1 : Int).toNat) hC39 (by omega)
           have hy39 : y117.length = (x3_1 : Int).toNat := (by rw [Ny117.out,List.length_take];omega)
           rw [← Ny117.out] at hr39
           rw [← hy39] at hcut39
           have HR120 := Aside0.mk hr39
           have HC120 := Aside0.mk (show y117.length ≤ c0_0 from by omega)
           clear hr39 hC39 hroom39 hi039 hsz39
           have KY39 := Aside0.mk hy39
           clear hy39
           replace q39 := eq_true q39
           refine hK.out _ _ ⟨(blk_cell BK115.out 0).trans rfl,(blk_cell BK115.out 1).trans rfl,(blk_cell BK112.out 0).trans rfl⟩ (fun hHeld => ?_)
           clear hK K
           refine norm_ (a' := ?_) ?_ ?_;rotate_left
           ·show Act.put _ (some 19) _ = _
            simp only [Act.put,sB3_,sZ3_,sS3_,i64_w,i32_w]
            rfl
           refine pure_ (i := 3) (N := some 20) (v := ?_) (a' := ?_) (mB3_ 35 15) rfl rfl (any_of HT_.out (by kernel_rfl)) (fun _ _ _ h => h) (Or.inl ⟨by rfl,?_⟩) ?_ ?_;rotate_left
           ·intro w'
            go_simp
            with_reducible rfl
           rotate_left
           ·simp only [Act.put,sB3_,sZ3_,sS3_,i64_w,i32_w]
            rfl
           refine pure_ (i := 4) (N := some 21) (v := ?_) (a' := ?_) (mB3_ 35 31) rfl rfl (any_of HT_.out (by kernel_rfl)) (fun _ _ _ h => h) (Or.inl ⟨by rfl,?_⟩) ?_ ?_;rotate_left
           ·intro w'
            go_simp
            with_reducible rfl
           rotate_left
           ·simp only [Act.put,sB3_,sZ3_,sS3_,i64_w,i32_w]
            rfl
           refine pure_ (i := 5) (N := some 22) (v := ?_) (a' := ?_) (mB3_ 35 63) rfl rfl (any_of HT_.out (by kernel_rfl)) (fun _ _ _ h => h) (Or.inl ⟨by rfl,?_⟩) ?_ ?_;rotate_left
           ·intro w'
            go_simp
            with_reducible rfl
           rotate_left
           ·simp only [Act.put,sB3_,sZ3_,sS3_,i64_w,i32_w]
            rfl
           refine pure_ (i := 7) (N := some 24) (v := ?_) (a' := ?_) (mB3_ 35 191) rfl rfl (any_of HT_.out (by kernel_rfl)) (fun _ _ _ h => h) (Or.inl ⟨by rfl,?_⟩) ?_ ?_;rotate_left
           ·intro w'
            go_simp
            with_reducible rfl
           rotate_left
           ·simp only [Act.put,sB3_,sZ3_,sS3_,i64_w,i32_w]
            rfl
           refine pure_ (i := 9) (N := some 26) (v := ?_) (a' := ?_) (mB3_ 35 703) rfl rfl (any_of HT_.out (by kernel_rfl)) (fun _ _ _ h => h) (Or.inl ⟨by rfl,?_⟩) ?_ ?_;rotate_left
           ·intro w'
            go_simp
            with_reducible rfl
           rotate_left
           ·simp only [Act.put,sB3_,sZ3_,sS3_,i64_w,i32_w]
            rfl
           refine take_ (i := 6) (N := some 23) (v := ?_) (a' := ?_) (mB3_ 35 767) rfl rfl (take_ofW HT_.out HW_.out (by kernel_rfl)) (fun _ _ _ h => h) (Or.inl ⟨by rfl,?_⟩) hHeld ?_ ?_;rotate_left
           ·rintro w' ⟨s0,s1,s2⟩
            go_simp
            with_reducible rfl
           rotate_left
           ·simp only [Act.put,sB3_,sZ3_,sS3_,i64_w,i32_w]
            rfl
           refine pure_ (i := 8) (N := some 25) (v := ?_) (a' := ?_) (mB3_ 35 1023) rfl rfl (any_of HT_.out (by kernel_rfl)) (fun _ _ _ h => h) (Or.inl ⟨by rfl,?_⟩) ?_ ?_;rotate_left
           ·intro w'
            go_simp
            with_reducible rfl
           rotate_left
           ·simp only [Act.put,sB3_,sZ3_,sS3_,i64_w,i32_w]
            rfl
           refine take_ (i := 10) (N := some 27) (v := ?_) (a' := ?_) (mB3_ 35 2047) rfl rfl (take_ofW HT_.out HW_.out (by kernel_rfl)) (fun _ _ _ h => h) (Or.inl ⟨by rfl,?_⟩) hHeld ?_ ?_;rotate_left
           ·rintro w' ⟨s0,s1,s2⟩
            go_simp
            with_reducible rfl
           rotate_left
           ·simp only [Act.put,sB3_,sZ3_,sS3_,i64_w,i32_w]
            rfl
           refine one_ (i := 11) (N := some 28) (mB3_ 35 4095) rfl rfl (one_of HT_.out (by kernel_rfl)) (by decide) (fun K hK => ?_)
           refine goes_ Try.func58 (by kernel_rfl) rfl #[.slice (some ad114) y117.length c0_0,.string ((rd_T70 l0_0 x3_1).f0)] (by rfl) rfl rfl (by (try simp only [List.map_toArray,List.map_cons,List.map_nil]);first|done|rfl|(simp only [List.length_drop,List.length_take];rfl)) ?_
           with_reducible refine (spec_classNamed.calls k1 _ _ y117 ((rd_T70 l0_0 x3_1).f0) t121 _ ?side1 ?side2 A14.out).mono ?_
           (case side1 => repeat (first|exact (Kd.C_below HR120.out (by repeat (first|(with_reducible first|exact HB.out|apply below_alloc|apply pw_below_drewN|apply below_drew1|refine below_set ?_ GE112.out|refine below_set ?_ GE115.out)|exact HB.out)))|(with_reducible refine Kd.C_alloc ?_ _)|(with_reducible refine Kd.C_drewN ?_ _)|(with_reducible refine Kd.C_drew ?_)))
           (case side2 => exact HC120.out)
           rintro e w' ⟨rfl,⟨nd,rfl⟩⟩
           refine ⟨_,rfl,?_⟩
           refine hK.out _ _ ⟨(blk_cell BK115.out 0).trans rfl,(blk_cell BK115.out 1).trans rfl,(blk_cell BK112.out 0).trans rfl⟩ (fun hHeld => ?_)
           clear hK K
           refine norm_ (a' := ?_) ?_ ?_;rotate_left
           ·show Act.put _ (some 28) _ = _
            simp only [Act.put,sB3_,sZ3_,sS3_,i64_w,i32_w]
            rfl
           refine pure_ (i := 12) (N := some 29) (v := ?_) (a' := ?_) (mB3_ 35 8191) rfl rfl (any_of HT_.out (by kernel_rfl)) (fun _ _ _ h => h) (Or.inl ⟨by rfl,?_⟩) ?_ ?_;rotate_left
           ·intro w'
            go_simp
            with_reducible rfl
           rotate_left
           ·simp only [Act.put,sB3_,sZ3_,sS3_,i64_w,i32_w]
            rfl
           refine pure_ (i := 13) (N := some 30) (v := ?_) (a' := ?_) (mB3_ 35 16383) rfl rfl (any_of HT_.out (by kernel_rfl)) (fun _ _ _ h => h) (Or.inl ⟨by rfl,?_⟩) ?_ ?_;rotate_left
           ·intro w'
            go_simp
            with_reducible rfl
           rotate_left
           ·simp only [Act.put,sB3_,sZ3_,sS3_,i64_w,i32_w]
            rfl
           refine pure_ (i := 14) (N := some 31) (v := ?_) (a' := ?_) (mB3_ 35 32767) rfl rfl (any_of HT_.out (by kernel_rfl)) (fun _ _ _ h => h) (Or.inl ⟨by rfl,?_⟩) ?_ ?_;rotate_left
           ·intro w'
            go_simp
            with_reducible rfl
           rotate_left
           ·simp only [Act.put,sB3_,sZ3_,sS3_,i64_w,i32_w]
            rfl
           refine pure_ (i := 15) (N := some 32) (v := ?_) (a' := ?_) (mB3_ 35 65535) rfl rfl (any_of HT_.out (by kernel_rfl)) (fun _ _ _ h => h) (Or.inl ⟨by rfl,?_⟩) ?_ ?_;rotate_left
           ·intro w'
            go_simp
            with_reducible rfl
           rotate_left
           ·simp only [Act.put,sB3_,sZ3_,sS3_,i64_w,i32_w]
            rfl
           refine pure_ (i := 16) (N := some 33) (v := ?_) (a' := ?_) (mB3_ 35 131071) rfl rfl (any_of HT_.out (by kernel_rfl)) (fun _ _ _ h => h) (Or.inl ⟨by rfl,?_⟩) ?_ ?_;rotate_left
           ·intro w'
            go_simp
            with_reducible rfl
           rotate_left
           ·simp only [Act.put,sB3_,sZ3_,sS3_,i64_w,i32_w]
            rfl
           refine pure_ (i := 17) (N := some 34) (v := ?_) (a' := ?_) (mB3_ 35 262143) rfl rfl (any_of HT_.out (by kernel_rfl)) (fun _ _ _ h => h) (Or.inl ⟨by rfl,?_⟩) ?_ ?_;rotate_left
           ·intro w'
            go_simp
            with_reducible rfl
           rotate_left
           ·simp only [Act.put,sB3_,sZ3_,sS3_,i64_w,i32_w]
            rfl
           refine pure_ (i := 18) (N := some 35) (v := undef) (a' := ?_) (mB3_ 35 524287) rfl rfl (any_of HT_.out (by kernel_rfl)) (fun _ _ _ h => h) (Or.inr ⟨by rfl,rfl⟩) ?_ ?_;rotate_left
           ·simp only [Act.put,sB3_,sZ3_,sS3_,i64_w,i32_w]
            rfl
           refine pure_ (i := 19) (N := some 36) (v := undef) (a' := ?_) (mB3_ 35 1048575) rfl rfl (any_of HT_.out (by kernel_rfl)) (fun _ _ _ h => h) (Or.inr ⟨by rfl,rfl⟩) ?_ ?_;rotate_left
           ·simp only [Act.put,sB3_,sZ3_,sS3_,i64_w,i32_w]
            rfl
           refine pure_ (i := 20) (N := some 37) (v := undef) (a' := ?_) (mB3_ 35 2097151) rfl rfl (any_of HT_.out (by kernel_rfl)) (fun _ _ _ h => h) (Or.inr ⟨by rfl,rfl⟩) ?_ ?_;rotate_left
           ·simp only [Act.put,sB3_,sZ3_,sS3_,i64_w,i32_w]
            rfl
           refine pure_ (i := 21) (N := some 38) (v := ?_) (a' := ?_) (mB3_ 35 4194303) rfl rfl (any_of HT_.out (by kernel_rfl)) (fun _ _ _ h => h) (Or.inl ⟨by rfl,?_⟩) ?_ ?_;rotate_left
           ·intro w'
            go_simp
            with_reducible rfl
           rotate_left
           ·simp only [Act.put,sB3_,sZ3_,sS3_,i64_w,i32_w]
            rfl
           refine pure_ (i := 22) (N := some 39) (v := ?_) (a' := ?_) (mB3_ 35 8388607) rfl rfl (any_of HT_.out (by kernel_rfl)) (fun _ _ _ h => h) (Or.inl ⟨by rfl,?_⟩) ?_ ?_;rotate_left
           ·intro w'
            go_simp
            with_reducible rfl
           rotate_left
           ·simp only [Act.put,sB3_,sZ3_,sS3_,i64_w,i32_w]
            rfl
           refine pure_ (i := 23) (N := some 40) (v := ?_) (a' := ?_) (mB3_ 35 16777215) rfl rfl (any_of HT_.out (by kernel_rfl)) (fun _ _ _ h => h) (Or.inl ⟨by rfl,?_⟩) ?_ ?_;rotate_left
           ·intro w'
            go_simp
            with_reducible rfl
           rotate_left
           ·simp only [Act.put,sB3_,sZ3_,sS3_,i64_w,i32_w]
            rfl
           refine pure_ (i := 24) (N := some 41) (v := ?_) (a' := ?_) (mB3_ 35 33554431) rfl rfl (any_of HT_.out (by kernel_rfl)) (fun _ _ _ h => h) (Or.inl ⟨by rfl,?_⟩) ?_ ?_;rotate_left
           ·intro w'
            go_simp
            with_reducible rfl
           rotate_left
           ·simp only [Act.put,sB3_,sZ3_,sS3_,i64_w,i32_w]
            rfl
           refine pure_ (i := 25) (N := some 42) (v := ?_) (a' := ?_) (mB3_ 35 67108863) rfl rfl (any_of HT_.out (by kernel_rfl)) (fun _ _ _ h => h) (Or.inl ⟨by rfl,?_⟩) ?_ ?_;rotate_left
           ·intro w'
            go_simp
            with_reducible rfl
           rotate_left
           ·simp only [Act.put,sB3_,sZ3_,sS3_,i64_w,i32_w]
            rfl
           refine pure_ (i := 26) (N := some 43) (v := ?_) (a' := ?_) (mB3_ 35 134217727) rfl rfl (any_of HT_.out (by kernel_rfl)) (fun _ _ _ h => h) (Or.inl ⟨by rfl,?_⟩) ?_ ?_;rotate_left
           ·intro w'
            go_simp
            with_reducible rfl
           rotate_left
           ·simp only [Act.put,sB3_,sZ3_,sS3_,i64_w,i32_w]
            rfl
           refine pure_ (i := 27) (N := some 44) (v := undef) (a' := ?_) (mB3_ 35 268435455) rfl rfl (any_of HT_.out (by kernel_rfl)) (fun _ _ _ h => h) (Or.inr ⟨by rfl,rfl⟩) ?_ ?_;rotate_left
           ·simp only [Act.put,sB3_,sZ3_,sS3_,i64_w,i32_w]
            rfl
           refine pure_ (i := 28) (N := some 45) (v := undef) (a' := ?_) (mB3_ 35 536870911) rfl rfl (any_of HT_.out (by kernel_rfl)) (fun _ _ _ h => h) (Or.inr ⟨by rfl,rfl⟩) ?_ ?_;rotate_left
           ·simp only [Act.put,sB3_,sZ3_,sS3_,i64_w,i32_w]
            rfl
           refine pure_ (i := 29) (N := some 46) (v := undef) (a' := ?_) (mB3_ 35 1073741823) rfl rfl (any_of HT_.out (by kernel_rfl)) (fun _ _ _ h => h) (Or.inr ⟨by rfl,rfl⟩) ?_ ?_;rotate_left
           ·simp only [Act.put,sB3_,sZ3_,sS3_,i64_w,i32_w]
            rfl
           refine pure_ (i := 30) (N := some 47) (v := undef) (a' := ?_) (mB3_ 35 2147483647) rfl rfl (any_of HT_.out (by kernel_rfl)) (fun _ _ _ h => h) (Or.inr ⟨by rfl,rfl⟩) ?_ ?_;rotate_left
           ·simp only [Act.put,sB3_,sZ3_,sS3_,i64_w,i32_w]
            rfl
           refine pure_ (i := 31) (N := some 48) (v := undef) (a' := ?_) (mB3_ 35 4294967295) rfl rfl (any_of HT_.out (by kernel_rfl)) (fun _ _ _ h => h) (Or.inr ⟨by rfl,rfl⟩) ?_ ?_;rotate_left
           ·simp only [Act.put,sB3_,sZ3_,sS3_,i64_w,i32_w]
            rfl
           refine pure_ (i := 32) (N := some 49) (v := undef) (a' := ?_) (mB3_ 35 8589934591) rfl rfl (any_of HT_.out (by kernel_rfl)) (fun _ _ _ h => h) (Or.inr ⟨by rfl,rfl⟩) ?_ ?_;rotate_left
           ·simp only [Act.put,sB3_,sZ3_,sS3_,i64_w,i32_w]
            rfl
           refine pure_ (i := 33) (N := some 50) (v := ?_) (a' := ?_) (mB3_ 35 17179869183) rfl rfl (any_of HT_.out (by kernel_rfl)) (fun _ _ _ h => h) (Or.inl ⟨by rfl,?_⟩) ?_ ?_;rotate_left
           ·intro w'
            go_simp
            with_reducible rfl
           rotate_left
           ·simp only [Act.put,sB3_,sZ3_,sS3_,i64_w,i32_w]
            rfl
           refine pure_ (i := 34) (N := some 51) (v := ?_) (a' := ?_) (mB3_ 35 34359738367) rfl rfl (any_of HT_.out (by kernel_rfl)) (fun _ _ _ h => h) (Or.inl ⟨by rfl,?_⟩) ?_ ?_;rotate_left
           ·intro w'
            go_simp
            with_reducible rfl
           rotate_left
           ·simp only [Act.put,sB3_,sZ3_,sS3_,i64_w,i32_w]
            rfl
           refine done_ (done_of HT_.out (by kernel_rfl)) ?_
           try go_wp2
           go_meet
           case rel => exact ⟨_,(false),(by first|rfl|(simp;done)|(simp [*];done)),H',⟨by have := HK1.out;first|omega|exact Nat.le_refl _⟩,⟨by (with_reducible repeat (first|refine blk_drewN ?_ _|refine blk_drew ?_|refine blk_alloc ?_ _));exact BK112.out⟩,⟨by (with_reducible repeat (first|refine blk_drewN ?_ _|refine blk_drew ?_|refine blk_alloc ?_ _));exact BK115.out⟩,⟨by repeat (first|(with_reducible first|exact HB.out|apply below_alloc|apply pw_below_drewN|apply below_drew1|refine below_set ?_ GE112.out|refine below_set ?_ GE115.out)|exact HB.out)⟩⟩
       ·rw [if_neg c13] at H
        exact absurd H (by simp)
      ·replace c11 := Bool.eq_false_iff.mpr c11
       subst c11
       have H1 : (spec_validTree.j1 k1 x3_1 true l0_0) = some r := by rw [if_neg (show ¬ (false = true) by decide)] at H;exact H
       clear H
       have H := H1
       clear H1
       have H' := Aside0.mk H
       clear H
       try go_wp2
       have n0_ : Aside0 (((w7.setCell ⟨gb115,0,none⟩ (.string ((rd_T70 l0_0 x3_1).f0))).setCell ⟨gb115,1,none⟩ (.int .i64 ((rd_T70 l0_0 x3_1).f1))).heap[gb112]? = some (.cells #[.slice (some ad114) l0_0.length c0_0] 31 (0,0))) := ⟨by (with_reducible repeat (first|refine blk_drewN ?_ _|refine blk_drew ?_|refine blk_alloc ?_ _));refine blk_far ?_ NB112_115.out _;(with_reducible repeat (first|refine blk_drewN ?_ _|refine blk_drew ?_|refine blk_alloc ?_ _));refine blk_far ?_ NB112_115.out _;(with_reducible repeat (first|refine blk_drewN ?_ _|refine blk_drew ?_|refine blk_alloc ?_ _));exact BK112.out⟩
       have n1_ : Aside0 (((w7.setCell ⟨gb115,0,none⟩ (.string ((rd_T70 l0_0 x3_1).f0))).setCell ⟨gb115,1,none⟩ (.int .i64 ((rd_T70 l0_0 x3_1).f1))).heap[gb115]? = some (.cells #[.string ((rd_T70 l0_0 x3_1).f0),.int .i64 ((rd_T70 l0_0 x3_1).f1)] 70 (0,0))) := ⟨by (with_reducible repeat (first|refine blk_drewN ?_ _|refine blk_drew ?_|refine blk_alloc ?_ _));refine blk_put (cs := #[.string ((rd_T70 l0_0 x3_1).f0),.int .i64 0]) ?_ 1 _ rfl;(with_reducible repeat (first|refine blk_drewN ?_ _|refine blk_drew ?_|refine blk_alloc ?_ _));refine blk_put (cs := #[.string (⟨#[]⟩ : ByteArray),.int .i64 0]) ?_ 0 _ rfl;(with_reducible repeat (first|refine blk_drewN ?_ _|refine blk_drew ?_|refine blk_alloc ?_ _));exact BK115.out⟩
       have n2_ : Aside0 (Below w.heap.size w ((w7.setCell ⟨gb115,0,none⟩ (.string ((rd_T70 l0_0 x3_1).f0))).setCell ⟨gb115,1,none⟩ (.int .i64 ((rd_T70 l0_0 x3_1).f1)))) := ⟨by repeat (first|(with_reducible first|exact HB.out|apply below_alloc|apply pw_below_drewN|apply below_drew1|refine below_set ?_ GE112.out|refine below_set ?_ GE115.out)|exact HB.out)⟩
       (try clear BK112)
       (try clear BK115)
       (try clear HB)
       generalize ((w7.setCell ⟨gb115,0,none⟩ (.string ((rd_T70 l0_0 x3_1).f0))).setCell ⟨gb115,1,none⟩ (.int .i64 ((rd_T70 l0_0 x3_1).f1))) = w40 at n0_ n1_ n2_ ⊢
       have BK112 := n0_
       have BK115 := n1_
       have HB := n2_
       clear n0_ n1_ n2_
       have n0_ := Aside0.mk (blk_drew BK112.out)
       have n1_ := Aside0.mk (blk_drew BK115.out)
       have n2_ := Aside0.mk (below_drew1 HB.out)
       clear BK112
       clear BK115
       clear HB
       have BK112 := n0_
       have BK115 := n1_
       have HB := n2_
       clear n0_ n1_ n2_
       refine start_ (n := 35) (S := fun w' => w'.cell? ⟨gb115,0,none⟩ = some (.string ((rd_T70 l0_0 x3_1).f0)) ∧ w'.cell? ⟨gb115,1,none⟩ = some (.int .i64 ((rd_T70 l0_0 x3_1).f1))) (ds := []) #[false,false,false,false,false,false,false,false,false,false,false,false,false,false,false,false,false,false,false,false,false,false,false,false,false,false,false,false,false,false,false,false,false,false,false] (by kernel_rfl) rfl rfl ⟨(blk_cell BK115.out 0).trans rfl,(blk_cell BK115.out 1).trans rfl⟩ (fun hHeld => ?_);refine with_tabW spec_validTree.tab5 spec_validTree.bits5 (fun HT_ HW_ => ?_)
       generalize w40.drew = w41 at BK112 BK115 HB hHeld ⊢
       refine pure_ (i := 0) (N := some 17) (v := ?_) (a' := ?_) (mB3_ 35 1) rfl rfl (any_of HT_.out (by kernel_rfl)) (fun _ _ _ h => h) (Or.inl ⟨by rfl,?_⟩) ?_ ?_;rotate_left
       ·intro w'
        go_simp
        with_reducible rfl
       rotate_left
       ·simp only [Act.put,sB3_,sZ3_,sS3_,i64_w,i32_w]
        rfl
       refine take_ (i := 1) (N := some 18) (v := ?_) (a' := ?_) (mB3_ 35 3) rfl rfl (take_ofW HT_.out HW_.out (by kernel_rfl)) (fun _ _ _ h => h) (Or.inl ⟨by rfl,?_⟩) hHeld ?_ ?_;rotate_left
       ·rintro w' ⟨s0,s1⟩
        go_simp
        with_reducible rfl
       rotate_left
       ·simp only [Act.put,sB3_,sZ3_,sS3_,i64_w,i32_w]
        rfl
       refine one_ (i := 2) (N := some 19) (mB3_ 35 7) rfl rfl (one_of HT_.out (by kernel_rfl)) (by decide) (fun K hK => ?_)
       refine goes_ Try.func57 (by kernel_rfl) rfl #[.string ((rd_T70 l0_0 x3_1).f0)] (by rfl) rfl rfl (by (try simp only [List.map_toArray,List.map_cons,List.map_nil]);first|done|rfl|(simp only [List.length_drop,List.length_take];rfl)) ?_
       with_reducible refine (spec_validName.calls k1 ((rd_T70 l0_0 x3_1).f0) false _ A10.out).mono ?_
       rintro e w' ⟨rfl,⟨nd,rfl⟩⟩
       refine ⟨_,rfl,?_⟩
       refine hK.out _ _ ⟨(blk_cell BK115.out 0).trans rfl,(blk_cell BK115.out 1).trans rfl⟩ (fun hHeld => ?_)
       clear hK K
       refine norm_ (a' := ?_) ?_ ?_;rotate_left
       ·show Act.put _ (some 19) _ = _
        simp only [Act.put,sB3_,sZ3_,sS3_,i64_w,i32_w]
        rfl
       refine pure_ (i := 3) (N := some 20) (v := ?_) (a' := ?_) (mB3_ 35 15) rfl rfl (any_of HT_.out (by kernel_rfl)) (fun _ _ _ h => h) (Or.inl ⟨by rfl,?_⟩) ?_ ?_;rotate_left
       ·intro w'
        go_simp
        with_reducible rfl
       rotate_left
       ·simp only [Act.put,sB3_,sZ3_,sS3_,i64_w,i32_w]
        rfl
       refine pure_ (i := 4) (N := some 21) (v := ?_) (a' := ?_) (mB3_ 35 31) rfl rfl (any_of HT_.out (by kernel_rfl)) (fun _ _ _ h => h) (Or.inl ⟨by rfl,?_⟩) ?_ ?_;rotate_left
       ·intro w'
        go_simp
        with_reducible rfl
       rotate_left
       ·simp only [Act.put,sB3_,sZ3_,sS3_,i64_w,i32_w]
        rfl
       refine pure_ (i := 5) (N := some 22) (v := undef) (a' := ?_) (mB3_ 35 63) rfl rfl (any_of HT_.out (by kernel_rfl)) (fun _ _ _ h => h) (Or.inr ⟨by rfl,rfl⟩) ?_ ?_;rotate_left
       ·simp only [Act.put,sB3_,sZ3_,sS3_,i64_w,i32_w]
        rfl
       refine pure_ (i := 6) (N := some 23) (v := undef) (a' := ?_) (mB3_ 35 127) rfl rfl (any_of HT_.out (by kernel_rfl)) (fun _ _ _ h => h) (Or.inr ⟨by rfl,rfl⟩) ?_ ?_;rotate_left
       ·simp only [Act.put,sB3_,sZ3_,sS3_,i64_w,i32_w]
        rfl
       refine pure_ (i := 7) (N := some 24) (v := undef) (a' := ?_) (mB3_ 35 255) rfl rfl (any_of HT_.out (by kernel_rfl)) (fun _ _ _ h => h) (Or.inr ⟨by rfl,rfl⟩) ?_ ?_;rotate_left
       ·simp only [Act.put,sB3_,sZ3_,sS3_,i64_w,i32_w]
        rfl
       refine pure_ (i := 8) (N := some 25) (v := undef) (a' := ?_) (mB3_ 35 511) rfl rfl (any_of HT_.out (by kernel_rfl)) (fun _ _ _ h => h) (Or.inr ⟨by rfl,rfl⟩) ?_ ?_;rotate_left
       ·simp only [Act.put,sB3_,sZ3_,sS3_,i64_w,i32_w]
        rfl
       refine pure_ (i := 9) (N := some 26) (v := undef) (a' := ?_) (mB3_ 35 1023) rfl rfl (any_of HT_.out (by kernel_rfl)) (fun _ _ _ h => h) (Or.inr ⟨by rfl,rfl⟩) ?_ ?_;rotate_left
       ·simp only [Act.put,sB3_,sZ3_,sS3_,i64_w,i32_w]
        rfl
       refine pure_ (i := 10) (N := some 27) (v := undef) (a' := ?_) (mB3_ 35 2047) rfl rfl (any_of HT_.out (by kernel_rfl)) (fun _ _ _ h => h) (Or.inr ⟨by rfl,rfl⟩) ?_ ?_;rotate_left
       ·simp only [Act.put,sB3_,sZ3_,sS3_,i64_w,i32_w]
        rfl
       refine pure_ (i := 11) (N := some 28) (v := undef) (a' := ?_) (mB3_ 35 4095) rfl rfl (any_of HT_.out (by kernel_rfl)) (fun _ _ _ h => h) (Or.inr ⟨by rfl,rfl⟩) ?_ ?_;rotate_left
       ·simp only [Act.put,sB3_,sZ3_,sS3_,i64_w,i32_w]
        rfl
       refine pure_ (i := 12) (N := some 29) (v := undef) (a' := ?_) (mB3_ 35 8191) rfl rfl (any_of HT_.out (by kernel_rfl)) (fun _ _ _ h => h) (Or.inr ⟨by rfl,rfl⟩) ?_ ?_;rotate_left
       ·simp only [Act.put,sB3_,sZ3_,sS3_,i64_w,i32_w]
        rfl
       refine pure_ (i := 13) (N := some 30) (v := ?_) (a' := ?_) (mB3_ 35 16383) rfl rfl (any_of HT_.out (by kernel_rfl)) (fun _ _ _ h => h) (Or.inl ⟨by rfl,?_⟩) ?_ ?_;rotate_left
       ·intro w'
        go_simp
        with_reducible rfl
       rotate_left
       ·simp only [Act.put,sB3_,sZ3_,sS3_,i64_w,i32_w]
        rfl
       refine pure_ (i := 14) (N := some 31) (v := ?_) (a' := ?_) (mB3_ 35 32767) rfl rfl (any_of HT_.out (by kernel_rfl)) (fun _ _ _ h => h) (Or.inl ⟨by rfl,?_⟩) ?_ ?_;rotate_left
       ·intro w'
        go_simp
        with_reducible rfl
       rotate_left
       ·simp only [Act.put,sB3_,sZ3_,sS3_,i64_w,i32_w]
        rfl
       refine pure_ (i := 15) (N := some 32) (v := undef) (a' := ?_) (mB3_ 35 65535) rfl rfl (any_of HT_.out (by kernel_rfl)) (fun _ _ _ h => h) (Or.inr ⟨by rfl,rfl⟩) ?_ ?_;rotate_left
       ·simp only [Act.put,sB3_,sZ3_,sS3_,i64_w,i32_w]
        rfl
       refine pure_ (i := 16) (N := some 33) (v := undef) (a' := ?_) (mB3_ 35 131071) rfl rfl (any_of HT_.out (by kernel_rfl)) (fun _ _ _ h => h) (Or.inr ⟨by rfl,rfl⟩) ?_ ?_;rotate_left
       ·simp only [Act.put,sB3_,sZ3_,sS3_,i64_w,i32_w]
        rfl
       refine pure_ (i := 17) (N := some 34) (v := undef) (a' := ?_) (mB3_ 35 262143) rfl rfl (any_of HT_.out (by kernel_rfl)) (fun _ _ _ h => h) (Or.inr ⟨by rfl,rfl⟩) ?_ ?_;rotate_left
       ·simp only [Act.put,sB3_,sZ3_,sS3_,i64_w,i32_w]
        rfl
       refine pure_ (i := 18) (N := some 35) (v := undef) (a' := ?_) (mB3_ 35 524287) rfl rfl (any_of HT_.out (by kernel_rfl)) (fun _ _ _ h => h) (Or.inr ⟨by rfl,rfl⟩) ?_ ?_;rotate_left
       ·simp only [Act.put,sB3_,sZ3_,sS3_,i64_w,i32_w]
        rfl
       refine pure_ (i := 19) (N := some 36) (v := undef) (a' := ?_) (mB3_ 35 1048575) rfl rfl (any_of HT_.out (by kernel_rfl)) (fun _ _ _ h => h) (Or.inr ⟨by rfl,rfl⟩) ?_ ?_;rotate_left
       ·simp only [Act.put,sB3_,sZ3_,sS3_,i64_w,i32_w]
        rfl
       refine pure_ (i := 20) (N := some 37) (v := undef) (a' := ?_) (mB3_ 35 2097151) rfl rfl (any_of HT_.out (by kernel_rfl)) (fun _ _ _ h => h) (Or.inr ⟨by rfl,rfl⟩) ?_ ?_;rotate_left
       ·simp only [Act.put,sB3_,sZ3_,sS3_,i64_w,i32_w]
        rfl
       refine pure_ (i := 21) (N := some 38) (v := undef) (a' := ?_) (mB3_ 35 4194303) rfl rfl (any_of HT_.out (by kernel_rfl)) (fun _ _ _ h => h) (Or.inr ⟨by rfl,rfl⟩) ?_ ?_;rotate_left
       ·simp only [Act.put,sB3_,sZ3_,sS3_,i64_w,i32_w]
        rfl
       refine pure_ (i := 22) (N := some 39) (v := ?_) (a' := ?_) (mB3_ 35 8388607) rfl rfl (any_of HT_.out (by kernel_rfl)) (fun _ _ _ h => h) (Or.inl ⟨by rfl,?_⟩) ?_ ?_;rotate_left
       ·intro w'
        go_simp
        with_reducible rfl
       rotate_left
       ·simp only [Act.put,sB3_,sZ3_,sS3_,i64_w,i32_w]
        rfl
       refine pure_ (i := 23) (N := some 40) (v := ?_) (a' := ?_) (mB3_ 35 16777215) rfl rfl (any_of HT_.out (by kernel_rfl)) (fun _ _ _ h => h) (Or.inl ⟨by rfl,?_⟩) ?_ ?_;rotate_left
       ·intro w'
        go_simp
        with_reducible rfl
       rotate_left
       ·simp only [Act.put,sB3_,sZ3_,sS3_,i64_w,i32_w]
        rfl
       refine pure_ (i := 24) (N := some 41) (v := undef) (a' := ?_) (mB3_ 35 33554431) rfl rfl (any_of HT_.out (by kernel_rfl)) (fun _ _ _ h => h) (Or.inr ⟨by rfl,rfl⟩) ?_ ?_;rotate_left
       ·simp only [Act.put,sB3_,sZ3_,sS3_,i64_w,i32_w]
        rfl
       refine pure_ (i := 25) (N := some 42) (v := undef) (a' := ?_) (mB3_ 35 67108863) rfl rfl (any_of HT_.out (by kernel_rfl)) (fun _ _ _ h => h) (Or.inr ⟨by rfl,rfl⟩) ?_ ?_;rotate_left
       ·simp only [Act.put,sB3_,sZ3_,sS3_,i64_w,i32_w]
        rfl
       refine pure_ (i := 26) (N := some 43) (v := undef) (a' := ?_) (mB3_ 35 134217727) rfl rfl (any_of HT_.out (by kernel_rfl)) (fun _ _ _ h => h) (Or.inr ⟨by rfl,rfl⟩) ?_ ?_;rotate_left
       ·simp only [Act.put,sB3_,sZ3_,sS3_,i64_w,i32_w]
        rfl
       refine pure_ (i := 27) (N := some 44) (v := undef) (a' := ?_) (mB3_ 35 268435455) rfl rfl (any_of HT_.out (by kernel_rfl)) (fun _ _ _ h => h) (Or.inr ⟨by rfl,rfl⟩) ?_ ?_;rotate_left
       ·simp only [Act.put,sB3_,sZ3_,sS3_,i64_w,i32_w]
        rfl
       refine pure_ (i := 28) (N := some 45) (v := undef) (a' := ?_) (mB3_ 35 536870911) rfl rfl (any_of HT_.out (by kernel_rfl)) (fun _ _ _ h => h) (Or.inr ⟨by rfl,rfl⟩) ?_ ?_;rotate_left
       ·simp only [Act.put,sB3_,sZ3_,sS3_,i64_w,i32_w]
        rfl
       refine pure_ (i := 29) (N := some 46) (v := undef) (a' := ?_) (mB3_ 35 1073741823) rfl rfl (any_of HT_.out (by kernel_rfl)) (fun _ _ _ h => h) (Or.inr ⟨by rfl,rfl⟩) ?_ ?_;rotate_left
       ·simp only [Act.put,sB3_,sZ3_,sS3_,i64_w,i32_w]
        rfl
       refine pure_ (i := 30) (N := some 47) (v := undef) (a' := ?_) (mB3_ 35 2147483647) rfl rfl (any_of HT_.out (by kernel_rfl)) (fun _ _ _ h => h) (Or.inr ⟨by rfl,rfl⟩) ?_ ?_;rotate_left
       ·simp only [Act.put,sB3_,sZ3_,sS3_,i64_w,i32_w]
        rfl
       refine pure_ (i := 31) (N := some 48) (v := undef) (a' := ?_) (mB3_ 35 4294967295) rfl rfl (any_of HT_.out (by kernel_rfl)) (fun _ _ _ h => h) (Or.inr ⟨by rfl,rfl⟩) ?_ ?_;rotate_left
       ·simp only [Act.put,sB3_,sZ3_,sS3_,i64_w,i32_w]
        rfl
       refine pure_ (i := 32) (N := some 49) (v := undef) (a' := ?_) (mB3_ 35 8589934591) rfl rfl (any_of HT_.out (by kernel_rfl)) (fun _ _ _ h => h) (Or.inr ⟨by rfl,rfl⟩) ?_ ?_;rotate_left
       ·simp only [Act.put,sB3_,sZ3_,sS3_,i64_w,i32_w]
        rfl
       refine pure_ (i := 33) (N := some 50) (v := undef) (a' := ?_) (mB3_ 35 17179869183) rfl rfl (any_of HT_.out (by kernel_rfl)) (fun _ _ _ h => h) (Or.inr ⟨by rfl,rfl⟩) ?_ ?_;rotate_left
       ·simp only [Act.put,sB3_,sZ3_,sS3_,i64_w,i32_w]
        rfl
       refine pure_ (i := 34) (N := some 51) (v := ?_) (a' := ?_) (mB3_ 35 34359738367) rfl rfl (any_of HT_.out (by kernel_rfl)) (fun _ _ _ h => h) (Or.inl ⟨by rfl,?_⟩) ?_ ?_;rotate_left
       ·intro w'
        go_simp
        with_reducible rfl
       rotate_left
       ·simp only [Act.put,sB3_,sZ3_,sS3_,i64_w,i32_w]
        rfl
       refine done_ (done_of HT_.out (by kernel_rfl)) ?_
       try go_wp2
       go_meet
       case rel => exact ⟨_,(true),(by first|rfl|(simp;done)|(simp [*];done)),H',⟨by have := HK1.out;first|omega|exact Nat.le_refl _⟩,⟨by (with_reducible repeat (first|refine blk_drewN ?_ _|refine blk_drew ?_|refine blk_alloc ?_ _));exact BK112.out⟩,⟨by (with_reducible repeat (first|refine blk_drewN ?_ _|refine blk_drew ?_|refine blk_alloc ?_ _));exact BK115.out⟩,⟨by repeat (first|(with_reducible first|exact HB.out|apply below_alloc|apply pw_below_drewN|apply below_drew1|refine below_set ?_ GE112.out|refine below_set ?_ GE115.out)|exact HB.out)⟩⟩
     case rest =>
      clear HC5
      try clear c1
      try clear p2
      try clear c3
      try clear q3
      try clear c5
      try clear p6
      try clear c11
      try clear c13
      try clear c32
      try clear c32b0
      try clear c38
      try clear q39
      try clear q39
      obtain ⟨kq,x51_4,rfl,HA,HJ4,BK112,BK115,HB⟩ := hcut
      cases kq with
      | zero => exact absurd HA.out (by simp [spec_validTree.j1])
      | succ kj4 =>
       have H := HA.out
       clear HA
       simp only [spec_validTree.j1] at H
       by_cases c42 : x51_4 = true
       ·subst c42
        have H1 : (some false) = some r := by rw [if_pos rfl] at H;exact H
        clear H
        have H := H1
        clear H1
        obtain rfl := Option.some.inj H
        go_wp2
        go_ret
        exact ⟨by first|rfl|(simp [errW_none,errW_some] <;> rfl)|(simp [*,errW_none,errW_some] <;> rfl),by repeat (first|(with_reducible first|exact HB.out|apply below_alloc|apply pw_below_drewN|apply below_drew1|refine below_set ?_ GE112.out|refine below_set ?_ GE115.out)|exact HB.out)⟩
       ·replace c42 := Bool.eq_false_iff.mpr c42
        subst c42
        have H1 : (spec_validTree.l0 kj4 (wrap64 (x3_1 + 1)) l0_0) = some r := by rw [if_neg (show ¬ (false = true) by decide)] at H;exact H
        clear H
        have H := H1
        clear H1
        have H' := Aside0.mk H
        clear H
        go_wp2
        go_roundg kj4
        case measure => have := HK1.out;have := HJ4.out;omega
        case rel => exact ⟨(wrap64 (x3_1 + 1)),(by first|rfl|(simp;done)|(simp [*];done)),H',⟨by have := HK1.out;have := HJ4.out;omega⟩,⟨by (with_reducible repeat (first|refine blk_drewN ?_ _|refine blk_drew ?_|refine blk_alloc ?_ _));exact BK112.out⟩,⟨by repeat (first|(with_reducible first|exact HB.out|apply below_alloc|apply pw_below_drewN|apply below_drew1|refine below_set ?_ GE112.out|refine below_set ?_ GE115.out)|exact HB.out)⟩⟩
    ·rw [if_neg c4] at H
     exact absurd H (by simp)
   ·rw [if_neg c3] at H
    have c3b0 : decide (x3_1 < (l0_0.length : Int)) = false := decide_eq_false c3
    clear c3
    replace H := Option.bind_eq_some_iff.mp H
    obtain ⟨t113,A430,H⟩ := H
    replace H : (some t113) = some r := H
    have A43 := Aside0.mk A430
    clear A430
    obtain rfl := Option.some.inj H
    have hcz44_0 : wr.cell? ⟨gb112,0,none⟩ = some (.slice A0_0 l0_0.length c0_0) := (blk_cell BK112.out 0).trans rfl
    have hfz44_0 := blk_frozen BK112.out 0
    go_wp2_with (first|((with_reducible refine gate_callee (f := 38) rfl ?_);refine goesL_ (some 55) rfl rfl Try.func38 (by kernel_rfl) rfl #[.int .i64 (l0_0.length : Int),.int .i64 1,.int .i64 8] rfl (by (try simp only [List.map_toArray,List.map_cons,List.map_nil]);first|done|rfl|(simp only [List.length_drop,List.length_take];rfl)) ?_;(with_reducible refine (spec_inRange.calls (l0_0.length : Int) 1 8 t113 _ A43.out).mono ?_);rintro e w' ⟨rfl,⟨nd,rfl⟩⟩;refine ⟨_,rfl,?_⟩))
    go_ret
    exact ⟨by first|rfl|(simp [errW_none,errW_some] <;> rfl)|(simp [*,errW_none,errW_some] <;> rfl),by repeat (first|(with_reducible first|exact HB.out|apply below_alloc|apply pw_below_drewN|apply below_drew1|refine below_set ?_ GE112.out)|exact HB.out)⟩
end Go.Proofs.Ytcbbflemaefeeaa.PT
