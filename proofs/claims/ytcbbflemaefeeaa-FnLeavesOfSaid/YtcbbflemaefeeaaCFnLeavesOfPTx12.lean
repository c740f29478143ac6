/- Words and walks that the law's proof uses: each printed function's contract. Conditions: none beyond the statement's own. -/
import Derived.Test.YtcbbflemaefeeaaCFnLeavesOfPTx0
import Derived.Test.YtcbbflemaefeeaaCFnLeavesOfPTx10
import Derived.Test.YtcbbflemaefeeaaCFnLeavesOfPTx11
namespace Go.Proofs.Ytcbbflemaefeeaa.PT
open Go.RowKit Go.Proofs.YtcbbflemaefeeaaW.PrintWords Go.Proofs.YtcbbflemaefeeaaW.PrintLast Go.Proofs.YtcbbflemaefeeaaW.PrintMore
attribute [local go_sem] max2_int min2_int max_two min_two max_three min_three max_four min_four   -- for this text's walks alone
set_option linter.unusedVariables false
set_option linter.unusedSimpArgs false
def spec_someTree.f (k : Nat) (s0_0 : List Int) (s0_1 : Int) : Option ((List (S70)) × Int) := (spec_goodTree.f k s0_0 s0_1).bind fun bt268 => ((spec_reader_pick.f k s0_0 bt268.2 (bt268.1.length : Int)).bind fun bt273 => ((spec_reader_pick.f k s0_0 bt273.2 24).bind fun bt275 => (if bt275.1 = 0 then ((spec_reader_of.f k s0_0 bt275.2 (([(⟨#[]⟩ : ByteArray),(⟨#[97,110,121]⟩ : ByteArray),(⟨#[65]⟩ : ByteArray),(⟨#[116,111,111,108,111,110,103]⟩ : ByteArray)] : List ByteArray))).bind fun bt280 => (if 0 ≤ bt273.1 then (if bt273.1 < (bt268.1.length : Int) then (some ((bt268.1.set (bt273.1 : Int).toNat (⟨bt280.1,(rd_T70 bt268.1 bt273.1).f1⟩ : S70)),bt280.2)) else (none)) else (none))) else (if bt275.1 = 1 then ((spec_reader_one.f k s0_0 bt275.2 (([bt273.1,(-1),8,(-2)] : List Int))).bind fun bt286 => (if 0 ≤ bt273.1 then (if bt273.1 < (bt268.1.length : Int) then (some ((bt268.1.set (bt273.1 : Int).toNat (⟨(rd_T70 bt268.1 bt273.1).f0,bt286.1⟩ : S70)),bt286.2)) else (none)) else (none))) else (if bt275.1 = 2 then (some (([] : List (S70)),bt275.2)) else (some (bt268.1,bt275.2)))))))
def spec_someTree.T5 : Bool × List (List Nat × List Nat) := (true,[([],[]),([0],[0]),([],[]),([],[]),([],[]),([3,4],[3,4]),([1,2,0,1,2,3,4,5],[1,2]),([6,0,1,2,3,4,5],[6]),([7,5,5,0,1,2,3,4,5],[5,7])])
def spec_someTree.B5 : List Nat := [0,1,0,0,0,24,63,127,255]
theorem spec_someTree.tab5 : rtab .any (opsOf Try.f49 5) = spec_someTree.T5 := by kernel_rfl
theorem spec_someTree.bits5 : waitsOk spec_someTree.T5.2 spec_someTree.B5 = true := by kernel_rfl
def spec_someTree.T7 : Bool × List (List Nat × List Nat) := (true,[([],[]),([0],[0]),([],[]),([],[]),([],[]),([4],[4]),([3,5],[3,5]),([1,2,0,1,2,3,4,5,6],[1,2]),([7,0,1,2,3,4,5,6],[7]),([8,6,6,0,1,2,3,4,5,6],[6,8])])
def spec_someTree.B7 : List Nat := [0,1,0,0,0,16,56,127,255,511]
theorem spec_someTree.tab7 : rtab .any (opsOf Try.f49 7) = spec_someTree.T7 := by kernel_rfl
theorem spec_someTree.bits7 : waitsOk spec_someTree.T7.2 spec_someTree.B7 = true := by kernel_rfl
set_option maxHeartbeats 8000000 in
set_option maxRecDepth 100000 in
theorem spec_someTree.calls (k : Nat) (g : Nat) (s0_0 : List Int) (s0_1 : Int) (r1 : List (S70)) (r2 : Int) (w0 w : World) (hI : IsS82 w0 w g s0_0 s0_1) (hB : Below w0.heap.size w0 w) (h : spec_someTree.f k s0_0 s0_1 = some (r1,r2)) :
  Calls Try.prog 49 #[.pointer (some ⟨g,0,none⟩)] w fun e w' => ∃ v0_ : Value,e = .returned (.agg #[v0_]) ∧ Kd.R k70 70 w' w.heap.size (fun _ => True) v0_ r1 ∧ IsS82 w0 w' g s0_0 r2 ∧ Below w0.heap.size w0 w' ∧ KeepBut w w' g none := by
 have hu31 := Try.underlying31
 have HI0 := Aside0.mk hI
 have HK := Aside0.mk (KeepBut.refl w g none)
 have HL := Aside0.mk hB.size
 clear hI
 have HW0 := Aside0.mk hB.size
 have HB := Aside0.mk hB
 clear hB
 have H : ((spec_goodTree.f k s0_0 s0_1).bind fun bt268 => ((spec_reader_pick.f k s0_0 bt268.2 (bt268.1.length : Int)).bind fun bt273 => ((spec_reader_pick.f k s0_0 bt273.2 24).bind fun bt275 => (if bt275.1 = 0 then ((spec_reader_of.f k s0_0 bt275.2 (([(⟨#[]⟩ : ByteArray),(⟨#[97,110,121]⟩ : ByteArray),(⟨#[65]⟩ : ByteArray),(⟨#[116,111,111,108,111,110,103]⟩ : ByteArray)] : List ByteArray))).bind fun bt280 => (if 0 ≤ bt273.1 then (if bt273.1 < (bt268.1.length : Int) then (some ((bt268.1.set (bt273.1 : Int).toNat (⟨bt280.1,(rd_T70 bt268.1 bt273.1).f1⟩ : S70)),bt280.2)) else (none)) else (none))) else (if bt275.1 = 1 then ((spec_reader_one.f k s0_0 bt275.2 (([bt273.1,(-1),8,(-2)] : List Int))).bind fun bt286 => (if 0 ≤ bt273.1 then (if bt273.1 < (bt268.1.length : Int) then (some ((bt268.1.set (bt273.1 : Int).toNat (⟨(rd_T70 bt268.1 bt273.1).f0,bt286.1⟩ : S70)),bt286.2)) else (none)) else (none))) else (if bt275.1 = 2 then (some (([] : List (S70)),bt275.2)) else (some (bt268.1,bt275.2)))))))) = some (r1,r2) := h
 clear h
 replace H := Option.bind_eq_some_iff.mp H
 obtain ⟨⟨t268,t271⟩,A20,H⟩ := H
 replace H : ((spec_reader_pick.f k s0_0 t271 (t268.length : Int)).bind fun bt273 => ((spec_reader_pick.f k s0_0 bt273.2 24).bind fun bt275 => (if bt275.1 = 0 then ((spec_reader_of.f k s0_0 bt275.2 (([(⟨#[]⟩ : ByteArray),(⟨#[97,110,121]⟩ : ByteArray),(⟨#[65]⟩ : ByteArray),(⟨#[116,111,111,108,111,110,103]⟩ : ByteArray)] : List ByteArray))).bind fun bt280 => (if 0 ≤ bt273.1 then (if bt273.1 < (t268.length : Int) then (some ((t268.set (bt273.1 : Int).toNat (⟨bt280.1,(rd_T70 t268 bt273.1).f1⟩ : S70)),bt280.2)) else (none)) else (none))) else (if bt275.1 = 1 then ((spec_reader_one.f k s0_0 bt275.2 (([bt273.1,(-1),8,(-2)] : List Int))).bind fun bt286 => (if 0 ≤ bt273.1 then (if bt273.1 < (t268.length : Int) then (some ((t268.set (bt273.1 : Int).toNat (⟨(rd_T70 t268 bt273.1).f0,bt286.1⟩ : S70)),bt286.2)) else (none)) else (none))) else (if bt275.1 = 2 then (some (([] : List (S70)),bt275.2)) else (some (t268,bt275.2))))))) = some (r1,r2) := H
 have A2 := Aside0.mk A20
 clear A20
 replace H := Option.bind_eq_some_iff.mp H
 obtain ⟨⟨t273,t274⟩,A30,H⟩ := H
 replace H : ((spec_reader_pick.f k s0_0 t274 24).bind fun bt275 => (if bt275.1 = 0 then ((spec_reader_of.f k s0_0 bt275.2 (([(⟨#[]⟩ : ByteArray),(⟨#[97,110,121]⟩ : ByteArray),(⟨#[65]⟩ : ByteArray),(⟨#[116,111,111,108,111,110,103]⟩ : ByteArray)] : List ByteArray))).bind fun bt280 => (if 0 ≤ t273 then (if t273 < (t268.length : Int) then (some ((t268.set (t273 : Int).toNat (⟨bt280.1,(rd_T70 t268 t273).f1⟩ : S70)),bt280.2)) else (none)) else (none))) else (if bt275.1 = 1 then ((spec_reader_one.f k s0_0 bt275.2 (([t273,(-1),8,(-2)] : List Int))).bind fun bt286 => (if 0 ≤ t273 then (if t273 < (t268.length : Int) then (some ((t268.set (t273 : Int).toNat (⟨(rd_T70 t268 t273).f0,bt286.1⟩ : S70)),bt286.2)) else (none)) else (none))) else (if bt275.1 = 2 then (some (([] : List (S70)),bt275.2)) else (some (t268,bt275.2)))))) = some (r1,r2) := H
 have A3 := Aside0.mk A30
 clear A30
 replace H := Option.bind_eq_some_iff.mp H
 obtain ⟨⟨t275,t276⟩,A40,H⟩ := H
 replace H : (if t275 = 0 then ((spec_reader_of.f k s0_0 t276 (([(⟨#[]⟩ : ByteArray),(⟨#[97,110,121]⟩ : ByteArray),(⟨#[65]⟩ : ByteArray),(⟨#[116,111,111,108,111,110,103]⟩ : ByteArray)] : List ByteArray))).bind fun bt280 => (if 0 ≤ t273 then (if t273 < (t268.length : Int) then (some ((t268.set (t273 : Int).toNat (⟨bt280.1,(rd_T70 t268 t273).f1⟩ : S70)),bt280.2)) else (none)) else (none))) else (if t275 = 1 then ((spec_reader_one.f k s0_0 t276 (([t273,(-1),8,(-2)] : List Int))).bind fun bt286 => (if 0 ≤ t273 then (if t273 < (t268.length : Int) then (some ((t268.set (t273 : Int).toNat (⟨(rd_T70 t268 t273).f0,bt286.1⟩ : S70)),bt286.2)) else (none)) else (none))) else (if t275 = 2 then (some (([] : List (S70)),t276)) else (some (t268,t276))))) = some (r1,r2) := H
 have A4 := Aside0.mk A40
 clear A40
 by_cases c5 : t275 = 0
 ·rw [if_pos c5] at H
  have c5b0 : (t275 == 0) = true := beq_iff_eq.mpr c5
  have c5b1 : (t275 != 0) = false := bne_eq_false_iff_eq.mpr c5
  clear c5
  obtain ⟨y277,hy277⟩ : ∃ y_ : List ByteArray,y_ = (([(⟨#[]⟩ : ByteArray),(⟨#[97,110,121]⟩ : ByteArray),(⟨#[65]⟩ : ByteArray),(⟨#[116,111,111,108,111,110,103]⟩ : ByteArray)] : List ByteArray)) := ⟨_,rfl⟩
  replace H : ((spec_reader_of.f k s0_0 t276 y277).bind fun bt280 => (if 0 ≤ t273 then (if t273 < (t268.length : Int) then (some ((t268.set (t273 : Int).toNat (⟨bt280.1,(rd_T70 t268 t273).f1⟩ : S70)),bt280.2)) else (none)) else (none))) = some (r1,r2) := by first|(rw [hy277];with_reducible exact H)|(have H2_ := (Option.bind_some _ _).symm.trans H;rw [hy277];with_reducible exact H2_)|(have H2_ := (Option.bind_some _ _).symm.trans H;with_reducible exact H2_)|with_reducible exact H|(rw [hy277];exact H)|exact H
  have Ny277 := Aside0.mk hy277
  clear hy277
  replace H := Option.bind_eq_some_iff.mp H
  obtain ⟨⟨t280,t281⟩,A60,H⟩ := H
  replace H : (if 0 ≤ t273 then (if t273 < (t268.length : Int) then (some ((t268.set (t273 : Int).toNat (⟨t280,(rd_T70 t268 t273).f1⟩ : S70)),t281)) else (none)) else (none)) = some (r1,r2) := H
  have A6 := Aside0.mk A60
  clear A60
  by_cases c7 : 0 ≤ t273
  ·rw [if_pos c7] at H
   have c7b0 : decide (0 ≤ t273) = true := decide_eq_true c7
   clear c7
   by_cases c8 : t273 < (t268.length : Int)
   ·rw [if_pos c8] at H
    have c8b0 : decide (t273 < (t268.length : Int)) = true := decide_eq_true c8
    clear c8
    obtain ⟨y282,hy282⟩ : ∃ y_ : List (S70),y_ = (t268.set (t273 : Int).toNat (⟨t280,(rd_T70 t268 t273).f1⟩ : S70)) := ⟨_,rfl⟩
    replace H : (some (y282,t281)) = some (r1,r2) := by first|(rw [hy282];with_reducible exact H)|(have H2_ := (Option.bind_some _ _).symm.trans H;rw [hy282];with_reducible exact H2_)|(have H2_ := (Option.bind_some _ _).symm.trans H;with_reducible exact H2_)|with_reducible exact H|(rw [hy282];exact H)|exact H
    have Ny282 := Aside0.mk hy282
    clear hy282
    simp only [Option.some.injEq,Prod.mk.injEq] at H
    obtain ⟨rfl,rfl⟩ := H
    go_enter Try.func49,Try.ntmps49
    try go_wp2_with (first|((with_reducible refine gate_dst (N := 2) rfl ?_);refine box_event ?hg (N := 2) ?hd (cs := #[.slice none 0 0]) (t := 31) ?hr ?_;(case hd => rfl);(case hg => rfl);(case hr => first|(go_simp;done)|(go_simp;rfl));intro gb267 hg w10 hbox hb;have n0_ := Aside0.mk (IsS82.below (by repeat (first|(with_reducible first|exact HI0.out|apply IsS82.alloc|apply IsS82.drewN|apply IsS82.drew|apply IsS82.set_1)|exact HI0.out)) hb);have n1_ := Aside0.mk (KeepBut.trans (by repeat (first|(with_reducible first|exact HK.out|apply KeepBut.set_|apply keep_drewN|apply keep_drew|apply keep_alloc)|exact HK.out)) (KeepBut.of_below hb g none) (.inl rfl));have n2_ := Aside0.mk (below_step (by repeat (first|(with_reducible first|exact HB.out|apply below_alloc|apply pw_below_drewN|apply below_drew1|refine below_set ?_ (IsS82.ge HI0.out))|exact HB.out)) hb);have n3_ := Aside0.mk (hbox);have n4_ := Aside0.mk ((by rw [hg];exact (keep_size (w := w) (g := g) (row := none) (by repeat (first|(with_reducible first|exact HK.out|apply KeepBut.set_|apply keep_drewN|apply keep_drew|apply keep_alloc)|exact HK.out))) : w.heap.size ≤ gb267));have n5_ := Aside0.mk ((Nat.le_trans HW0.out (by rw [hg];exact (keep_size (w := w) (g := g) (row := none) (by repeat (first|(with_reducible first|exact HK.out|apply KeepBut.set_|apply keep_drewN|apply keep_drew|apply keep_alloc)|exact HK.out))) : w.heap.size ≤ gb267) : w0.heap.size ≤ gb267));have n6_ := Aside0.mk ((by rw [hg];exact Nat.ne_of_lt (IsS82.lt (show IsS82 w0 _ g s0_0 s0_1 from by repeat (first|(with_reducible first|exact HI0.out|apply IsS82.alloc|apply IsS82.drewN|apply IsS82.drew|apply IsS82.set_1)|exact HI0.out))) : g ≠ gb267));have n7_ := Aside0.mk ((by rw [hg];exact Nat.ne_of_gt (IsS82.lt (show IsS82 w0 _ g s0_0 s0_1 from by repeat (first|(with_reducible first|exact HI0.out|apply IsS82.alloc|apply IsS82.drewN|apply IsS82.drew|apply IsS82.set_1)|exact HI0.out))) : gb267 ≠ g));clear HI0;clear HK;clear HB;have HI0 := n0_;have HK := n1_;have HB := n2_;have BK267 := n3_;have GW267 := n4_;have GE267 := n5_;have NB0_267 := n6_;have NB267_0 := n7_;clear n0_ n1_ n2_ n3_ n4_ n5_ n6_ n7_;clear hb hbox hg)|((with_reducible refine gate_callee (f := 61) rfl ?_);refine goesL_ (some 6) rfl rfl Try.func61 (by kernel_rfl) rfl #[.pointer (some ⟨g,0,none⟩)] rfl (by (try simp only [List.map_toArray,List.map_cons,List.map_nil]);first|done|rfl|(simp only [List.length_drop,List.length_take];rfl)) ?_;(with_reducible refine (spec_goodTree.calls k g s0_0 s0_1 t268 t271 w0 _ ?side1 ?side2 A2.out).mono ?_);(case side1 => repeat (first|(with_reducible first|exact HI0.out|apply IsS82.alloc|apply IsS82.drewN|apply IsS82.drew|apply IsS82.set_1|refine IsS82.far ?_ NB0_267.out _)|exact HI0.out));(case side2 => repeat (first|(with_reducible first|exact HB.out|apply below_alloc|apply pw_below_drewN|apply below_drew1|refine below_set ?_ (IsS82.ge HI0.out)|refine below_set ?_ GE267.out)|exact HB.out));rintro e w11 ⟨v269,rfl,ho0,hi,hb,hk⟩;refine ⟨_,rfl,?_⟩;have n0_ := Aside0.mk (KeepBut.blk hk (g' := gb267) (o := .cells #[.slice none 0 0] 31 (0,0)) (by (with_reducible repeat (first|refine blk_drewN ?_ _|refine blk_drew ?_|refine blk_alloc ?_ _));exact BK267.out) NB267_0.out (by simp));have n1_ := Aside0.mk (Kd.R_lower ho0 (keep_size (w := w) (g := g) (row := none) (by repeat (first|(with_reducible first|exact HK.out|apply KeepBut.set_|apply keep_drewN|apply keep_drew|apply keep_alloc|refine keep_far ?_ GW267.out _)|exact HK.out))));have n2_ := Aside0.mk (KeepBut.trans (by repeat (first|(with_reducible first|exact HK.out|apply KeepBut.set_|apply keep_drewN|apply keep_drew|apply keep_alloc|refine keep_far ?_ GW267.out _)|exact HK.out)) hk (.inl rfl));have n3_ := Aside0.mk (hb);have n4_ := Aside0.mk (hi);clear BK267;clear HK;clear HB;clear HI0;have BK267 := n0_;have HO270 := n1_;have HK := n2_;have HB := n3_;have HI0 := n4_;clear n0_ n1_ n2_ n3_ n4_;(try clear hb);(try clear hb2);(try clear hk);(try clear hi);(try clear ho0))|((with_reducible refine gate_dst (N := 3) rfl ?_);refine box_event ?hg (N := 3) ?hd (cs := #[.slice none 0 0]) (t := 31) ?hr ?_;(case hd => rfl);(case hg => rfl);(case hr => first|(go_simp;done)|(go_simp;rfl));intro gb272 hg w12 hbox hb;have n0_ := Aside0.mk (Kd.R_below (by (with_reducible repeat (first|apply Kd.R_alloc|apply Kd.R_drewN|apply Kd.R_drew));exact HO270.out) hb);have n1_ := Aside0.mk (IsS82.below (by repeat (first|(with_reducible first|exact HI0.out|apply IsS82.alloc|apply IsS82.drewN|apply IsS82.drew|apply IsS82.set_1|refine IsS82.far ?_ NB0_267.out _)|exact HI0.out)) hb);have n2_ := Aside0.mk (blk_below (g := gb267) (o := .cells #[.slice none 0 0] 31 (0,0)) (by (with_reducible repeat (first|refine blk_drewN ?_ _|refine blk_drew ?_|refine blk_alloc ?_ _));exact BK267.out) hb);have n3_ := Aside0.mk (KeepBut.trans (by repeat (first|(with_reducible first|exact HK.out|apply KeepBut.set_|apply keep_drewN|apply keep_drew|apply keep_alloc|refine keep_far ?_ GW267.out _)|exact HK.out)) (KeepBut.of_below hb g none) (.inl rfl));have n4_ := Aside0.mk (below_step (by repeat (first|(with_reducible first|exact HB.out|apply below_alloc|apply pw_below_drewN|apply below_drew1|refine below_set ?_ (IsS82.ge HI0.out)|refine below_set ?_ GE267.out)|exact HB.out)) hb);have n5_ := Aside0.mk (hbox);have n6_ := Aside0.mk ((by rw [hg];exact (keep_size (w := w) (g := g) (row := none) (by repeat (first|(with_reducible first|exact HK.out|apply KeepBut.set_|apply keep_drewN|apply keep_drew|apply keep_alloc|refine keep_far ?_ GW267.out _)|exact HK.out))) : w.heap.size ≤ gb272));have n7_ := Aside0.mk ((Nat.le_trans HW0.out (by rw [hg];exact (keep_size (w := w) (g := g) (row := none) (by repeat (first|(with_reducible first|exact HK.out|apply KeepBut.set_|apply keep_drewN|apply keep_drew|apply keep_alloc|refine keep_far ?_ GW267.out _)|exact HK.out))) : w.heap.size ≤ gb272) : w0.heap.size ≤ gb272));have n8_ := Aside0.mk ((by rw [hg];exact Nat.ne_of_lt (blk_lt (g := gb267) (o := .cells #[.slice none 0 0] 31 (0,0)) (by (with_reducible repeat (first|refine blk_drewN ?_ _|refine blk_drew ?_|refine blk_alloc ?_ _));exact BK267.out)) : gb267 ≠ gb272));have n9_ := Aside0.mk ((by rw [hg];exact Nat.ne_of_gt (blk_lt (g := gb267) (o := .cells #[.slice none 0 0] 31 (0,0)) (by (with_reducible repeat (first|refine blk_drewN ?_ _|refine blk_drew ?_|refine blk_alloc ?_ _));exact BK267.out)) : gb272 ≠ gb267));have n10_ := Aside0.mk ((by rw [hg];exact Nat.ne_of_lt (IsS82.lt (show IsS82 w0 _ g s0_0 t271 from by repeat (first|(with_reducible first|exact HI0.out|apply IsS82.alloc|apply IsS82.drewN|apply IsS82.drew|apply IsS82.set_1|refine IsS82.far ?_ NB0_267.out _)|exact HI0.out))) : g ≠ gb272));have n11_ := Aside0.mk ((by rw [hg];exact Nat.ne_of_gt (IsS82.lt (show IsS82 w0 _ g s0_0 t271 from by repeat (first|(with_reducible first|exact HI0.out|apply IsS82.alloc|apply IsS82.drewN|apply IsS82.drew|apply IsS82.set_1|refine IsS82.far ?_ NB0_267.out _)|exact HI0.out))) : gb272 ≠ g));clear HO270;clear HI0;clear BK267;clear HK;clear HB;have HO270 := n0_;have HI0 := n1_;have BK267 := n2_;have HK := n3_;have HB := n4_;have BK272 := n5_;have GW272 := n6_;have GE272 := n7_;have NB267_272 := n8_;have NB272_267 := n9_;have NB0_272 := n10_;have NB272_0 := n11_;clear n0_ n1_ n2_ n3_ n4_ n5_ n6_ n7_ n8_ n9_ n10_ n11_;clear hb hbox hg;obtain ⟨Ao13,co13,eo13⟩ := Kd.R_slice HO270.out;subst eo13;have hnb14 := NB272_267.out;have hnc14 := NB267_272.out;have hnb15 := NB272_0.out;have hnc15 := NB0_272.out;have hcz16_0 : w12.cell? ⟨gb272,0,none⟩ = some (.slice none 0 0) := (blk_cell BK272.out 0).trans rfl;have hfz16_0 := blk_frozen BK272.out 0)|((with_reducible refine gate_callee (f := 51) rfl ?_);refine goesL_ (some 11) rfl rfl Try.func51 (by kernel_rfl) rfl #[.pointer (some ⟨g,0,none⟩),.int .i64 (t268.length : Int)] rfl (by (try simp only [List.map_toArray,List.map_cons,List.map_nil]);first|done|rfl|(simp only [List.length_drop,List.length_take];rfl)) ?_;(with_reducible refine (spec_reader_pick.calls k g s0_0 t271 (t268.length : Int) t273 t274 w0 _ ?side1 ?side2 A3.out).mono ?_);(case side1 => repeat (first|(with_reducible first|exact HI0.out|apply IsS82.alloc|apply IsS82.drewN|apply IsS82.drew|apply IsS82.set_1|refine IsS82.far ?_ NB0_267.out _|refine IsS82.far ?_ NB0_272.out _)|exact HI0.out));(case side2 => repeat (first|(with_reducible first|exact HB.out|apply below_alloc|apply pw_below_drewN|apply below_drew1|refine below_set ?_ (IsS82.ge HI0.out)|refine below_set ?_ GE267.out|refine below_set ?_ GE272.out)|exact HB.out));rintro e w17 ⟨rfl,hi,hb,hk⟩;refine ⟨_,rfl,?_⟩;have n0_ := Aside0.mk (KeepBut.blk hk (g' := gb267) (o := .cells #[.slice none 0 0] 31 (0,0)) (by (with_reducible repeat (first|refine blk_drewN ?_ _|refine blk_drew ?_|refine blk_alloc ?_ _));refine blk_far ?_ NB267_272.out _;(with_reducible repeat (first|refine blk_drewN ?_ _|refine blk_drew ?_|refine blk_alloc ?_ _));exact BK267.out) NB267_0.out (by simp));have n1_ := Aside0.mk (Kd.R_mono (Kd.R_keep (IsS82.apart (show IsS82 w0 _ g s0_0 t271 from by repeat (first|(with_reducible first|exact HI0.out|apply IsS82.alloc|apply IsS82.drewN|apply IsS82.drew|apply IsS82.set_1|refine IsS82.far ?_ NB0_267.out _|refine IsS82.far ?_ NB0_272.out _)|exact HI0.out)) (by (with_reducible repeat (first|apply Kd.R_alloc|apply Kd.R_drewN|apply Kd.R_drew));exact (Kd.R_mono (Kd.R_far (p := ⟨gb272,0,none⟩) (Kd.R_types HO270.out BK272.out (by decide)) (fun _ hk => hk.2) (.slice Ao13 t268.length co13)) (fun _ h_ => h_.1))) (by decide)) hk (fun _ h => h.2)) (fun _ h => h.1));have n2_ := Aside0.mk (KeepBut.blk hk (g' := gb272) (o := .cells #[.slice Ao13 t268.length co13] 31 (0,0)) (by (with_reducible repeat (first|refine blk_drewN ?_ _|refine blk_drew ?_|refine blk_alloc ?_ _));refine blk_put (cs := #[.slice none 0 0]) ?_ 0 _ rfl;(with_reducible repeat (first|refine blk_drewN ?_ _|refine blk_drew ?_|refine blk_alloc ?_ _));exact BK272.out) NB272_0.out (by simp));have n3_ := Aside0.mk (KeepBut.trans (by repeat (first|(with_reducible first|exact HK.out|apply KeepBut.set_|apply keep_drewN|apply keep_drew|apply keep_alloc|refine keep_far ?_ GW267.out _|refine keep_far ?_ GW272.out _)|exact HK.out)) hk (.inl rfl));have n4_ := Aside0.mk (hb);have n5_ := Aside0.mk (hi);clear BK267;clear HO270;clear BK272;clear HK;clear HB;clear HI0;have BK267 := n0_;have HO270 := n1_;have BK272 := n2_;have HK := n3_;have HB := n4_;have HI0 := n5_;clear n0_ n1_ n2_ n3_ n4_ n5_;(try clear hb);(try clear hb2);(try clear hk);(try clear hi))|((with_reducible refine gate_callee (f := 51) rfl ?_);refine goesL_ (some 13) rfl rfl Try.func51 (by kernel_rfl) rfl #[.pointer (some ⟨g,0,none⟩),.int .i64 24] rfl (by (try simp only [List.map_toArray,List.map_cons,List.map_nil]);first|done|rfl|(simp only [List.length_drop,List.length_take];rfl)) ?_;(with_reducible refine (spec_reader_pick.calls k g s0_0 t274 24 t275 t276 w0 _ ?side1 ?side2 A4.out).mono ?_);(case side1 => repeat (first|(with_reducible first|exact HI0.out|apply IsS82.alloc|apply IsS82.drewN|apply IsS82.drew|apply IsS82.set_1|refine IsS82.far ?_ NB0_267.out _|refine IsS82.far ?_ NB0_272.out _)|exact HI0.out));(case side2 => repeat (first|(with_reducible first|exact HB.out|apply below_alloc|apply pw_below_drewN|apply below_drew1|refine below_set ?_ (IsS82.ge HI0.out)|refine below_set ?_ GE267.out|refine below_set ?_ GE272.out)|exact HB.out));rintro e w18 ⟨rfl,hi,hb,hk⟩;refine ⟨_,rfl,?_⟩;have n0_ := Aside0.mk (KeepBut.blk hk (g' := gb267) (o := .cells #[.slice none 0 0] 31 (0,0)) (by (with_reducible repeat (first|refine blk_drewN ?_ _|refine blk_drew ?_|refine blk_alloc ?_ _));exact BK267.out) NB267_0.out (by simp));have n1_ := Aside0.mk (Kd.R_mono (Kd.R_keep (IsS82.apart (show IsS82 w0 _ g s0_0 t274 from by repeat (first|(with_reducible first|exact HI0.out|apply IsS82.alloc|apply IsS82.drewN|apply IsS82.drew|apply IsS82.set_1|refine IsS82.far ?_ NB0_267.out _|refine IsS82.far ?_ NB0_272.out _)|exact HI0.out)) (by (with_reducible repeat (first|apply Kd.R_alloc|apply Kd.R_drewN|apply Kd.R_drew));exact HO270.out) (by decide)) hk (fun _ h => h.2)) (fun _ h => h.1));have n2_ := Aside0.mk (KeepBut.blk hk (g' := gb272) (o := .cells #[.slice Ao13 t268.length co13] 31 (0,0)) (by (with_reducible repeat (first|refine blk_drewN ?_ _|refine blk_drew ?_|refine blk_alloc ?_ _));exact BK272.out) NB272_0.out (by simp));have n3_ := Aside0.mk (KeepBut.trans (by repeat (first|(with_reducible first|exact HK.out|apply KeepBut.set_|apply keep_drewN|apply keep_drew|apply keep_alloc|refine keep_far ?_ GW267.out _|refine keep_far ?_ GW272.out _)|exact HK.out)) hk (.inl rfl));have n4_ := Aside0.mk (hb);have n5_ := Aside0.mk (hi);clear BK267;clear HO270;clear BK272;clear HK;clear HB;clear HI0;have BK267 := n0_;have HO270 := n1_;have BK272 := n2_;have HK := n3_;have HB := n4_;have HI0 := n5_;clear n0_ n1_ n2_ n3_ n4_ n5_;(try clear hb);(try clear hb2);(try clear hk);(try clear hi)))
    have n0_ := Aside0.mk (Kd.R_drew HO270.out)
    have n1_ := Aside0.mk (blk_drew BK267.out)
    have n2_ := Aside0.mk (blk_drew BK272.out)
    have n3_ := Aside0.mk (IsS82.drew HI0.out)
    have n4_ := Aside0.mk (keep_drew HK.out)
    have n5_ := Aside0.mk (below_drew1 HB.out)
    clear HO270
    clear BK267
    clear BK272
    clear HI0
    clear HK
    clear HB
    have HO270 := n0_
    have BK267 := n1_
    have BK272 := n2_
    have HI0 := n3_
    have HK := n4_
    have HB := n5_
    clear n0_ n1_ n2_ n3_ n4_ n5_
    refine start_ (n := 9) (S := fun w' => w'.cell? ⟨gb272,0,none⟩ = some (.slice Ao13 t268.length co13)) (ds := [8]) #[false,false,false,false,false,false,false,false,false] (by kernel_rfl) rfl rfl ((blk_cell BK272.out 0).trans rfl) (fun hHeld => ?_);refine with_tabW spec_someTree.tab5 spec_someTree.bits5 (fun HT_ HW_ => ?_)
    generalize w18.drew = w19 at HO270 BK267 BK272 HI0 HK HB hHeld ⊢
    refine pure_ (i := 0) (N := some 16) (v := ?_) (a' := ?_) #[true,false,false,false,false,false,false,false,false] rfl rfl (any_of HT_.out (by kernel_rfl)) (fun _ _ _ h => h) (Or.inl ⟨by rfl,?_⟩) ?_ ?_
    rotate_left
    ·intro w'
     go_simp
     with_reducible rfl
    rotate_left
    ·simp only [Act.put,List.setIfInBounds_toArray,List.set_cons_zero,List.set_cons_succ,i64_w,i32_w]
     rfl
    refine pure_ (i := 2) (N := some 18) (v := ?_) (a' := ?_) #[true,false,true,false,false,false,false,false,false] rfl rfl (any_of HT_.out (by kernel_rfl)) (fun _ _ _ h => h) (Or.inl ⟨by rfl,?_⟩) ?_ ?_
    rotate_left
    ·intro w'
     go_simp
     with_reducible rfl
    rotate_left
    ·simp only [Act.put,List.setIfInBounds_toArray,List.set_cons_zero,List.set_cons_succ,i64_w,i32_w]
     rfl
    refine pure_ (i := 3) (N := some 19) (v := ?_) (a' := ?_) #[true,false,true,true,false,false,false,false,false] rfl rfl (any_of HT_.out (by kernel_rfl)) (fun _ _ _ h => h) (Or.inl ⟨by rfl,?_⟩) ?_ ?_
    rotate_left
    ·intro w'
     go_simp
     with_reducible rfl
    rotate_left
    ·simp only [Act.put,List.setIfInBounds_toArray,List.set_cons_zero,List.set_cons_succ,i64_w,i32_w]
     rfl
    refine take_ (i := 1) (N := some 17) (v := ?_) (a' := ?_) #[true,true,true,true,false,false,false,false,false] rfl rfl (take_ofW HT_.out HW_.out (by kernel_rfl)) (fun _ _ _ h => h) (Or.inl ⟨by rfl,?_⟩) hHeld ?_ ?_
    rotate_left
    ·intro w' s0
     go_simp
     with_reducible rfl
    rotate_left
    ·simp only [Act.put,List.setIfInBounds_toArray,List.set_cons_zero,List.set_cons_succ,i64_w,i32_w]
     rfl
    refine one_ (i := 4) (N := some 20) #[true,true,true,true,true,false,false,false,false] rfl rfl (one_of HT_.out (by kernel_rfl)) (by decide) (fun K hK => ?_)
    refine Kd.R_lit_step Kd.string _ 9 ?hg (N := 20) ?hd (xs := ([(⟨#[]⟩ : ByteArray),(⟨#[97,110,121]⟩ : ByteArray),(⟨#[65]⟩ : ByteArray),(⟨#[116,111,111,108,111,110,103]⟩ : ByteArray)] : List ByteArray)) (inner := [.string (⟨#[]⟩ : ByteArray),.string (⟨#[97,110,121]⟩ : ByteArray),.string (⟨#[65]⟩ : ByteArray),.string (⟨#[116,111,111,108,111,110,103]⟩ : ByteArray)]) (ok := fun _ => True) (okp := fun _ => True) ?hr ?hp (fun _ hk => hk) trivial (Below.refl _ _) (Nat.le_refl _) (by simp) ?_;(case hd => rfl);(case hg => rfl);(case hr => first|(go_simp;done)|(go_simp;rfl));(case hp => exact (Reps.one (show Kd.M Kd.string _ _ _ (⟨#[]⟩ : ByteArray) [.string (⟨#[]⟩ : ByteArray)] from rfl) (Reps.one (show Kd.M Kd.string _ _ _ (⟨#[97,110,121]⟩ : ByteArray) [.string (⟨#[97,110,121]⟩ : ByteArray)] from rfl) (Reps.one (show Kd.M Kd.string _ _ _ (⟨#[65]⟩ : ByteArray) [.string (⟨#[65]⟩ : ByteArray)] from rfl) (Reps.one (show Kd.M Kd.string _ _ _ (⟨#[116,111,111,108,111,110,103]⟩ : ByteArray) [.string (⟨#[116,111,111,108,111,110,103]⟩ : ByteArray)] from rfl) (Reps.none _ _))))))
    intro v278 w20 ho21 hb hg_ hnew_
    clear hg_ hnew_
    (first|rw [← Ny277.out] at ho21|(simp only [Int.reduceToNat] at ho21;rw [← Ny277.out] at ho21))
    have n0_ := Aside0.mk (Kd.R_below (by (with_reducible repeat (first|apply Kd.R_alloc|apply Kd.R_drewN|apply Kd.R_drew));exact HO270.out) hb)
    have n1_ := Aside0.mk (Kd.R_lower ho21 (keep_size (w := w) (g := g) (row := none) (by repeat (first|(with_reducible first|exact HK.out|apply KeepBut.set_|apply keep_drewN|apply keep_drew|apply keep_alloc|refine keep_far ?_ GW267.out _|refine keep_far ?_ GW272.out _)|exact HK.out))))
    have n2_ := Aside0.mk (IsS82.below (by repeat (first|(with_reducible first|exact HI0.out|apply IsS82.alloc|apply IsS82.drewN|apply IsS82.drew|apply IsS82.set_1|refine IsS82.far ?_ NB0_267.out _|refine IsS82.far ?_ NB0_272.out _)|exact HI0.out)) hb)
    have n3_ := Aside0.mk (blk_below (g := gb267) (o := .cells #[.slice none 0 0] 31 (0,0)) (by (with_reducible repeat (first|refine blk_drewN ?_ _|refine blk_drew ?_|refine blk_alloc ?_ _));exact BK267.out) hb)
    have n4_ := Aside0.mk (blk_below (g := gb272) (o := .cells #[.slice Ao13 t268.length co13] 31 (0,0)) (by (with_reducible repeat (first|refine blk_drewN ?_ _|refine blk_drew ?_|refine blk_alloc ?_ _));exact BK272.out) hb)
    have n5_ := Aside0.mk (KeepBut.trans (by repeat (first|(with_reducible first|exact HK.out|apply KeepBut.set_|apply keep_drewN|apply keep_drew|apply keep_alloc|refine keep_far ?_ GW267.out _|refine keep_far ?_ GW272.out _)|exact HK.out)) (KeepBut.of_below hb g none) (.inl rfl))
    have n6_ := Aside0.mk (below_step (by repeat (first|(with_reducible first|exact HB.out|apply below_alloc|apply pw_below_drewN|apply below_drew1|refine below_set ?_ (IsS82.ge HI0.out)|refine below_set ?_ GE267.out|refine below_set ?_ GE272.out)|exact HB.out)) hb)
    clear HO270
    clear HI0
    clear BK267
    clear BK272
    clear HK
    clear HB
    have HO270 := n0_
    have HO279 := n1_
    have HI0 := n2_
    have BK267 := n3_
    have BK272 := n4_
    have HK := n5_
    have HB := n6_
    clear n0_ n1_ n2_ n3_ n4_ n5_ n6_
    clear hb ho21
    obtain ⟨Ao22,co22,eo22⟩ := Kd.R_slice HO279.out
    (first|subst eo22|(injection eo22 with f1_ f2_ f3_;have f4_ := f1_.symm;have f5_ := f3_.symm;clear f1_ f2_ f3_;subst f4_;subst f5_))
    refine hK.out _ _ ((blk_cell BK272.out 0).trans rfl) (fun hHeld => ?_)
    clear hK K
    refine norm_ (a' := ?_) ?_ ?_
    rotate_left
    ·show Act.put _ (some 20) _ = _
     simp only [Act.put,List.setIfInBounds_toArray,List.set_cons_zero,List.set_cons_succ,i64_w,i32_w]
     rfl
    refine one_ (i := 5) (N := some 21) #[true,true,true,true,true,true,false,false,false] rfl rfl (one_of HT_.out (by kernel_rfl)) (by decide) (fun K hK => ?_)
    refine goes_ Try.func62 (by kernel_rfl) rfl #[.pointer (some ⟨g,0,none⟩),.slice Ao22 y277.length co22] (by rfl) rfl rfl (by (try simp only [List.map_toArray,List.map_cons,List.map_nil]);first|done|rfl|(simp only [List.length_drop,List.length_take];rfl)) ?_
    with_reducible refine (spec_reader_of.calls k g s0_0 t276 _ _ y277 t280 t281 w0 _ ?side1 ?side2 ?side3 ?side4 ?side5 A6.out).mono ?_
    (case side1 => repeat (first|(with_reducible first|exact HI0.out|apply IsS82.alloc|apply IsS82.drewN|apply IsS82.drew|apply IsS82.set_1|refine IsS82.far ?_ NB0_267.out _|refine IsS82.far ?_ NB0_272.out _)|exact HI0.out))
    (case side2 => repeat (first|(with_reducible first|exact HB.out|apply below_alloc|apply pw_below_drewN|apply below_drew1|refine below_set ?_ (IsS82.ge HI0.out)|refine below_set ?_ GE267.out|refine below_set ?_ GE272.out)|exact HB.out))
    (case side3 => repeat (first|exact (Kd.R_reads' HO279.out).2.2|(with_reducible refine Kd.C_alloc ?_ _)|(with_reducible refine Kd.C_drewN ?_ _)|(with_reducible refine Kd.C_drew ?_)))
    (case side4 => exact (Kd.R_reads' HO279.out).2.1)
    (case side5 => exact far_slice (IsS82.own_ne HI0.out HO279.out (by decide)))
    rintro e w23 ⟨rfl,hi,hb,hk⟩
    refine ⟨_,rfl,?_⟩
    have n0_ := Aside0.mk (KeepBut.blk hk (g' := gb267) (o := .cells #[.slice none 0 0] 31 (0,0)) (by (with_reducible repeat (first|refine blk_drewN ?_ _|refine blk_drew ?_|refine blk_alloc ?_ _));exact BK267.out) NB267_0.out (by simp))
    have n1_ := Aside0.mk (Kd.R_mono (Kd.R_keep (IsS82.apart (show IsS82 w0 _ g s0_0 t276 from by repeat (first|(with_reducible first|exact HI0.out|apply IsS82.alloc|apply IsS82.drewN|apply IsS82.drew|apply IsS82.set_1|refine IsS82.far ?_ NB0_267.out _|refine IsS82.far ?_ NB0_272.out _)|exact HI0.out)) (by (with_reducible repeat (first|apply Kd.R_alloc|apply Kd.R_drewN|apply Kd.R_drew));exact HO270.out) (by decide)) hk (fun _ h => h.2)) (fun _ h => h.1))
    have n2_ := Aside0.mk (KeepBut.blk hk (g' := gb272) (o := .cells #[.slice Ao13 t268.length co13] 31 (0,0)) (by (with_reducible repeat (first|refine blk_drewN ?_ _|refine blk_drew ?_|refine blk_alloc ?_ _));exact BK272.out) NB272_0.out (by simp))
    have n3_ := Aside0.mk (Kd.R_mono (Kd.R_keep (IsS82.apart (show IsS82 w0 _ g s0_0 t276 from by repeat (first|(with_reducible first|exact HI0.out|apply IsS82.alloc|apply IsS82.drewN|apply IsS82.drew|apply IsS82.set_1|refine IsS82.far ?_ NB0_267.out _|refine IsS82.far ?_ NB0_272.out _)|exact HI0.out)) (by (with_reducible repeat (first|apply Kd.R_alloc|apply Kd.R_drewN|apply Kd.R_drew));exact HO279.out) (by decide)) hk (fun _ h => h.2)) (fun _ h => h.1))
    have n4_ := Aside0.mk (KeepBut.trans (by repeat (first|(with_reducible first|exact HK.out|apply KeepBut.set_|apply keep_drewN|apply keep_drew|apply keep_alloc|refine keep_far ?_ GW267.out _|refine keep_far ?_ GW272.out _)|exact HK.out)) hk (.inl rfl))
    have n5_ := Aside0.mk (hb)
    have n6_ := Aside0.mk (hi)
    clear BK267
    clear HO270
    clear BK272
    clear HO279
    clear HK
    clear HB
    clear HI0
    have BK267 := n0_
    have HO270 := n1_
    have BK272 := n2_
    have HO279 := n3_
    have HK := n4_
    have HB := n5_
    have HI0 := n6_
    clear n0_ n1_ n2_ n3_ n4_ n5_ n6_
    (try clear hb)
    (try clear hb2)
    (try clear hk)
    (try clear hi)
    have p9 : 0 ≤ (t273 : Int) := of_decide_eq_true (by first|(with_reducible assumption)|assumption)
    have q9 : (t273 : Int) < ((t268.length : Int) : Int) := of_decide_eq_true (by first|(with_reducible assumption)|assumption)
    obtain ⟨go9,co9,eo9,gb9,gl9,cl9,HG9⟩ := Kd.R_form HO270.out (by omega)
    (first|cases eo9|(injection eo9 with ea_ en_ ec_;(first|subst ea_|(injection ea_ with ea_;subst ea_));subst ec_;clear en_))
    have GB9 := Aside0.mk gb9
    have GG9 := Aside0.mk HG9
    clear gb9 gl9 HG9
    obtain ⟨ce9,hcl9,hM9,hcc9,hfr9⟩ := Kd.R_elem HO270.out z70 (t273 : Int) p9 q9
    obtain rfl := k70_openM hM9
    have hx9_0 : World.cell? _ ⟨go9,(t273 : Int).toNat * 2,none⟩ = some (.string ((rd_T70 t268 t273).f0)) := hcc9 0 _ rfl
    have hx9_1 : World.cell? _ ⟨go9,(t273 : Int).toNat * 2 + 1,none⟩ = some (.int .i64 ((rd_T70 t268 t273).f1)) := hcc9 1 _ rfl
    have hf9_0 : World.frozen? _ ⟨go9,(t273 : Int).toNat * 2,none⟩ = false := hfr9 0
    have hf9_1 : World.frozen? _ ⟨go9,(t273 : Int).toNat * 2 + 1,none⟩ = false := hfr9 1
    clear hcl9 hcc9 hfr9 hM9
    replace p9 := eq_true p9
    replace q9 := eq_true q9
    have HN0_go9 := Aside0.mk (show g ≠ go9 from by have h_ := IsS82.own_ne HI0.out HO270.out (by decide);intro e_;exact h_ (by rw [e_];rfl))
    obtain ⟨ce24,hcl24,hM24,hcc24,hfr24⟩ := Kd.R_elem HO270.out z70 (t273 : Int) (of_decide_eq_true (by first|(with_reducible assumption)|assumption)) (by have h_ : (t273 : Int) < ((t268.length : Int) : Int) := of_decide_eq_true (by first|(with_reducible assumption)|assumption);first|exact h_|(have e_ := (Kd.R_reads' HO270.out).1;omega)|simpa using h_)
    obtain rfl := k70_openM hM24
    have HP24 := (Kd.R_seg HO270.out (t273 : Int) (of_decide_eq_true (by first|(with_reducible assumption)|assumption)) (by have h_ : (t273 : Int) < ((t268.length : Int) : Int) := of_decide_eq_true (by first|(with_reducible assumption)|assumption);first|exact h_|(have e_ := (Kd.R_reads' HO270.out).1;omega)|simpa using h_) (seg := [.string t280]) (j := 0) hcl24 hcc24 (show 1 ≤ 2 from by decide) (x' := (⟨t280,(rd_T70 t268 t273).f1⟩ : S70)) (k70_mkM _ _ _ (⟨t280,(rd_T70 t268 t273).f1⟩ : S70) ) (fun _ hk => hk)).1
    rw [← Ny282.out] at HP24
    have HQ24 := Aside0.mk HP24
    clear hcl24 hcc24 hfr24 hM24 HP24
    refine hK.out _ _ ((blk_cell BK272.out 0).trans rfl) (fun hHeld => ?_)
    clear hK K
    refine norm_ (a' := ?_) ?_ ?_
    rotate_left
    ·show Act.put _ (some 21) _ = _
     simp only [Act.put,List.setIfInBounds_toArray,List.set_cons_zero,List.set_cons_succ,i64_w,i32_w]
     rfl
    refine pure_ (i := 6) (N := some 22) (v := ?_) (a' := ?_) #[true,true,true,true,true,true,true,false,false] rfl rfl (any_of HT_.out (by kernel_rfl)) (fun _ _ _ h => h) (Or.inl ⟨by rfl,?_⟩) ?_ ?_
    rotate_left
    ·intro w'
     go_simp
     with_reducible rfl
    rotate_left
    ·simp only [Act.put,List.setIfInBounds_toArray,List.set_cons_zero,List.set_cons_succ,i64_w,i32_w]
     rfl
    refine pure_ (i := 7) (N := some 23) (v := ?_) (a' := ?_) #[true,true,true,true,true,true,true,true,false] rfl rfl (any_of HT_.out (by kernel_rfl)) (fun _ _ _ h => h) (Or.inl ⟨by rfl,?_⟩) ?_ ?_
    rotate_left
    ·intro w'
     go_simp
     with_reducible rfl
    rotate_left
    ·simp only [Act.put,List.setIfInBounds_toArray,List.set_cons_zero,List.set_cons_succ,i64_w,i32_w]
     rfl
    refine last_ (i := 8) (N := none) #[true,true,true,true,true,true,true,true,true] rfl rfl (one_of HT_.out (by kernel_rfl)) (by decide) (fun K hK => ?_)
    refine skip_ (w1 := ?_) (by rfl) rfl ?_ ?_
    rotate_left
    ·go_simp
     rfl
    refine hK.out _ _ ?_
    clear hK K
    refine done_ (done_of HT_.out (by kernel_rfl)) ?_
    have n0_ : Aside0 (Kd.R k70 70 (w23.setCell ⟨go9,(t273 : Int).toNat * 2,none⟩ (.string t280)) w.heap.size (fun _ => True) (.slice (some ⟨go9,0,none⟩) t268.length co13) y282) := ⟨by (with_reducible repeat (first|apply Kd.R_alloc|apply Kd.R_drewN|apply Kd.R_drew));exact HQ24.out⟩
    have n1_ : Aside0 (Kd.R Kd.string 9 (w23.setCell ⟨go9,(t273 : Int).toNat * 2,none⟩ (.string t280)) w.heap.size (fun _ => True) (.slice Ao22 y277.length co22) y277) := ⟨by (with_reducible repeat (first|apply Kd.R_alloc|apply Kd.R_drewN|apply Kd.R_drew));exact Kd.R_mono (Kd.R_far (p := ⟨go9,(t273 : Int).toNat * 2,none⟩) (Kd.R_types HO279.out GG9.out (by decide)) (fun _ hk => hk.2) (.string t280)) (fun _ hk => trivial)⟩
    have n2_ : Aside0 ((w23.setCell ⟨go9,(t273 : Int).toNat * 2,none⟩ (.string t280)).heap[gb267]? = some (.cells #[.slice none 0 0] 31 (0,0))) := ⟨by (with_reducible repeat (first|refine blk_drewN ?_ _|refine blk_drew ?_|refine blk_alloc ?_ _));refine blk_far ?_ (by have h_ := Kd.R_ne HO270.out BK267.out (by decide);intro e_;exact h_ (by rw [e_];rfl)) _;(with_reducible repeat (first|refine blk_drewN ?_ _|refine blk_drew ?_|refine blk_alloc ?_ _));exact BK267.out⟩
    have n3_ : Aside0 ((w23.setCell ⟨go9,(t273 : Int).toNat * 2,none⟩ (.string t280)).heap[gb272]? = some (.cells #[.slice (some ⟨go9,0,none⟩) t268.length co13] 31 (0,0))) := ⟨by (with_reducible repeat (first|refine blk_drewN ?_ _|refine blk_drew ?_|refine blk_alloc ?_ _));refine blk_far ?_ (by have h_ := Kd.R_ne HO270.out BK272.out (by decide);intro e_;exact h_ (by rw [e_];rfl)) _;(with_reducible repeat (first|refine blk_drewN ?_ _|refine blk_drew ?_|refine blk_alloc ?_ _));exact BK272.out⟩
    have n4_ : Aside0 (IsS82 w0 (w23.setCell ⟨go9,(t273 : Int).toNat * 2,none⟩ (.string t280)) g s0_0 t281) := ⟨by repeat (first|(with_reducible first|exact HI0.out|apply IsS82.alloc|apply IsS82.drewN|apply IsS82.drew|apply IsS82.set_1|refine IsS82.far ?_ HN0_go9.out _|refine IsS82.far ?_ NB0_267.out _|refine IsS82.far ?_ NB0_272.out _)|exact HI0.out)⟩
    have n5_ : Aside0 (KeepBut w (w23.setCell ⟨go9,(t273 : Int).toNat * 2,none⟩ (.string t280)) g none) := ⟨by repeat (first|(with_reducible first|exact HK.out|apply KeepBut.set_|apply keep_drewN|apply keep_drew|apply keep_alloc|refine keep_far ?_ GB9.out _|refine keep_far ?_ GW267.out _|refine keep_far ?_ GW272.out _)|exact HK.out)⟩
    have n6_ : Aside0 (Below w0.heap.size w0 (w23.setCell ⟨go9,(t273 : Int).toNat * 2,none⟩ (.string t280))) := ⟨by repeat (first|(with_reducible first|exact HB.out|apply below_alloc|apply pw_below_drewN|apply below_drew1|refine below_set ?_ (Nat.le_trans HL.out GB9.out)|refine below_set ?_ (IsS82.ge HI0.out)|refine below_set ?_ GE267.out|refine below_set ?_ GE272.out)|exact HB.out)⟩
    (try clear HO270)
    (try clear HO279)
    (try clear BK267)
    (try clear BK272)
    (try clear HI0)
    (try clear HK)
    (try clear HB)
    generalize (w23.setCell ⟨go9,(t273 : Int).toNat * 2,none⟩ (.string t280)) = w25 at n0_ n1_ n2_ n3_ n4_ n5_ n6_ ⊢
    have HO270 := n0_
    have HO279 := n1_
    have BK267 := n2_
    have BK272 := n3_
    have HI0 := n4_
    have HK := n5_
    have HB := n6_
    clear n0_ n1_ n2_ n3_ n4_ n5_ n6_
    have hcz26_0 : w25.cell? ⟨gb272,0,none⟩ = some (.slice (some ⟨go9,0,none⟩) t268.length co13) := (blk_cell BK272.out 0).trans rfl
    have hfz26_0 := blk_frozen BK272.out 0
    have hnb27 := NB267_0.out
    have hnc27 := NB0_267.out
    have hcz28_0 : w25.cell? ⟨gb267,0,none⟩ = some (.slice none 0 0) := (blk_cell BK267.out 0).trans rfl
    have hfz28_0 := blk_frozen BK267.out 0
    try go_wp2
    refine bodyPost_ret (results_cell_row rfl _ _ gb267 31 #[.slice (some ⟨go9,0,none⟩) t268.length co13] (0,0) _ rfl (by (with_reducible repeat (first|refine blk_drewN ?_ _|refine blk_drew ?_|refine blk_alloc ?_ _));refine blk_put (cs := #[.slice none 0 0]) ?_ 0 _ rfl;(with_reducible repeat (first|refine blk_drewN ?_ _|refine blk_drew ?_|refine blk_alloc ?_ _));exact BK267.out) Try.underlying31 rfl (by kernel_rfl)) rfl ?_
    exact ⟨_,by first|rfl|(simp [errW_none,errW_some] <;> rfl)|(simp [*,errW_none,errW_some] <;> rfl),by (with_reducible repeat (first|apply Kd.R_alloc|apply Kd.R_drewN|apply Kd.R_drew));exact Kd.R_mono (Kd.R_far (p := ⟨gb267,0,none⟩) (Kd.R_types HO270.out BK267.out (by decide)) (fun _ hk => hk.2) (.slice (some ⟨go9,0,none⟩) t268.length co13)) (fun _ hk => trivial),by repeat (first|(with_reducible first|exact HI0.out|apply IsS82.alloc|apply IsS82.drewN|apply IsS82.drew|apply IsS82.set_1|refine IsS82.far ?_ NB0_267.out _|refine IsS82.far ?_ NB0_272.out _)|exact HI0.out),by repeat (first|(with_reducible first|exact HB.out|apply below_alloc|apply pw_below_drewN|apply below_drew1|refine below_set ?_ (IsS82.ge HI0.out)|refine below_set ?_ GE267.out|refine below_set ?_ GE272.out)|exact HB.out),by repeat (first|(with_reducible first|exact HK.out|apply KeepBut.set_|apply keep_drewN|apply keep_drew|apply keep_alloc|refine keep_far ?_ GW267.out _|refine keep_far ?_ GW272.out _)|exact HK.out)⟩
   ·rw [if_neg c8] at H
    exact absurd H (by simp)
  ·rw [if_neg c7] at H
   exact absurd H (by simp)
 ·rw [if_neg c5] at H
  have c5b0 : (t275 == 0) = false := beq_eq_false_iff_ne.mpr c5
  have c5b1 : (t275 != 0) = true := bne_iff_ne.mpr c5
  by_cases c29 : t275 = 1
  ·rw [if_pos c29] at H
   have c29b0 : (t275 == 1) = true := beq_iff_eq.mpr c29
   have c29b1 : (t275 != 1) = false := bne_eq_false_iff_eq.mpr c29
   clear c29
   obtain ⟨y283,hy283⟩ : ∃ y_ : List Int,y_ = (([t273,(-1),8,(-2)] : List Int)) := ⟨_,rfl⟩
   replace H : ((spec_reader_one.f k s0_0 t276 y283).bind fun bt286 => (if 0 ≤ t273 then (if t273 < (t268.length : Int) then (some ((t268.set (t273 : Int).toNat (⟨(rd_T70 t268 t273).f0,bt286.1⟩ : S70)),bt286.2)) else (none)) else (none))) = some (r1,r2) := by first|(rw [hy283];with_reducible exact H)|(have H2_ := (Option.bind_some _ _).symm.trans H;rw [hy283];with_reducible exact H2_)|(have H2_ := (Option.bind_some _ _).symm.trans H;with_reducible exact H2_)|with_reducible exact H|(rw [hy283];exact H)|exact H
   have Ny283 := Aside0.mk hy283
   clear hy283
   replace H := Option.bind_eq_some_iff.mp H
   obtain ⟨⟨t286,t287⟩,A300,H⟩ := H
   replace H : (if 0 ≤ t273 then (if t273 < (t268.length : Int) then (some ((t268.set (t273 : Int).toNat (⟨(rd_T70 t268 t273).f0,t286⟩ : S70)),t287)) else (none)) else (none)) = some (r1,r2) := H
   have A30 := Aside0.mk A300
   clear A300
   by_cases c31 : 0 ≤ t273
   ·rw [if_pos c31] at H
    have c31b0 : decide (0 ≤ t273) = true := decide_eq_true c31
    clear c31
    by_cases c32 : t273 < (t268.length : Int)
    ·rw [if_pos c32] at H
     have c32b0 : decide (t273 < (t268.length : Int)) = true := decide_eq_true c32
     clear c32
     obtain ⟨y288,hy288⟩ : ∃ y_ : List (S70),y_ = (t268.set (t273 : Int).toNat (⟨(rd_T70 t268 t273).f0,t286⟩ : S70)) := ⟨_,rfl⟩
     replace H : (some (y288,t287)) = some (r1,r2) := by first|(rw [hy288];with_reducible exact H)|(have H2_ := (Option.bind_some _ _).symm.trans H;rw [hy288];with_reducible exact H2_)|(have H2_ := (Option.bind_some _ _).symm.trans H;with_reducible exact H2_)|with_reducible exact H|(rw [hy288];exact H)|exact H
     have Ny288 := Aside0.mk hy288
     clear hy288
     simp only [Option.some.injEq,Prod.mk.injEq] at H
     obtain ⟨rfl,rfl⟩ := H
     go_enter Try.func49,Try.ntmps49
     try go_wp2_with (first|((with_reducible refine gate_dst (N := 2) rfl ?_);refine box_event ?hg (N := 2) ?hd (cs := #[.slice none 0 0]) (t := 31) ?hr ?_;(case hd => rfl);(case hg => rfl);(case hr => first|(go_simp;done)|(go_simp;rfl));intro gb267 hg w34 hbox hb;have n0_ := Aside0.mk (IsS82.below (by repeat (first|(with_reducible first|exact HI0.out|apply IsS82.alloc|apply IsS82.drewN|apply IsS82.drew|apply IsS82.set_1)|exact HI0.out)) hb);have n1_ := Aside0.mk (KeepBut.trans (by repeat (first|(with_reducible first|exact HK.out|apply KeepBut.set_|apply keep_drewN|apply keep_drew|apply keep_alloc)|exact HK.out)) (KeepBut.of_below hb g none) (.inl rfl));have n2_ := Aside0.mk (below_step (by repeat (first|(with_reducible first|exact HB.out|apply below_alloc|apply pw_below_drewN|apply below_drew1|refine below_set ?_ (IsS82.ge HI0.out))|exact HB.out)) hb);have n3_ := Aside0.mk (hbox);have n4_ := Aside0.mk ((by rw [hg];exact (keep_size (w := w) (g := g) (row := none) (by repeat (first|(with_reducible first|exact HK.out|apply KeepBut.set_|apply keep_drewN|apply keep_drew|apply keep_alloc)|exact HK.out))) : w.heap.size ≤ gb267));have n5_ := Aside0.mk ((Nat.le_trans HW0.out (by rw [hg];exact (keep_size (w := w) (g := g) (row := none) (by repeat (first|(with_reducible first|exact HK.out|apply KeepBut.set_|apply keep_drewN|apply keep_drew|apply keep_alloc)|exact HK.out))) : w.heap.size ≤ gb267) : w0.heap.size ≤ gb267));have n6_ := Aside0.mk ((by rw [hg];exact Nat.ne_of_lt (IsS82.lt (show IsS82 w0 _ g s0_0 s0_1 from by repeat (first|(with_reducible first|exact HI0.out|apply IsS82.alloc|apply IsS82.drewN|apply IsS82.drew|apply IsS82.set_1)|exact HI0.out))) : g ≠ gb267));have n7_ := Aside0.mk ((by rw [hg];exact Nat.ne_of_gt (IsS82.lt (show IsS82 w0 _ g s0_0 s0_1 from by repeat (first|(with_reducible first|exact HI0.out|apply IsS82.alloc|apply IsS82.drewN|apply IsS82.drew|apply IsS82.set_1)|exact HI0.out))) : gb267 ≠ g));clear HI0;clear HK;clear HB;have HI0 := n0_;have HK := n1_;have HB := n2_;have BK267 := n3_;have GW267 := n4_;have GE267 := n5_;have NB0_267 := n6_;have NB267_0 := n7_;clear n0_ n1_ n2_ n3_ n4_ n5_ n6_ n7_;clear hb hbox hg)|((with_reducible refine gate_callee (f := 61) rfl ?_);refine goesL_ (some 6) rfl rfl Try.func61 (by kernel_rfl) rfl #[.pointer (some ⟨g,0,none⟩)] rfl (by (try simp only [List.map_toArray,List.map_cons,List.map_nil]);first|done|rfl|(simp only [List.length_drop,List.length_take];rfl)) ?_;(with_reducible refine (spec_goodTree.calls k g s0_0 s0_1 t268 t271 w0 _ ?side1 ?side2 A2.out).mono ?_);(case side1 => repeat (first|(with_reducible first|exact HI0.out|apply IsS82.alloc|apply IsS82.drewN|apply IsS82.drew|apply IsS82.set_1|refine IsS82.far ?_ NB0_267.out _)|exact HI0.out));(case side2 => repeat (first|(with_reducible first|exact HB.out|apply below_alloc|apply pw_below_drewN|apply below_drew1|refine below_set ?_ (IsS82.ge HI0.out)|refine below_set ?_ GE267.out)|exact HB.out));rintro e w35 ⟨v269,rfl,ho0,hi,hb,hk⟩;refine ⟨_,rfl,?_⟩;have n0_ := Aside0.mk (KeepBut.blk hk (g' := gb267) (o := .cells #[.slice none 0 0] 31 (0,0)) (by (with_reducible repeat (first|refine blk_drewN ?_ _|refine blk_drew ?_|refine blk_alloc ?_ _));exact BK267.out) NB267_0.out (by simp));have n1_ := Aside0.mk (Kd.R_lower ho0 (keep_size (w := w) (g := g) (row := none) (by repeat (first|(with_reducible first|exact HK.out|apply KeepBut.set_|apply keep_drewN|apply keep_drew|apply keep_alloc|refine keep_far ?_ GW267.out _)|exact HK.out))));have n2_ := Aside0.mk (KeepBut.trans (by repeat (first|(with_reducible first|exact HK.out|apply KeepBut.set_|apply keep_drewN|apply keep_drew|apply keep_alloc|refine keep_far ?_ GW267.out _)|exact HK.out)) hk (.inl rfl));have n3_ := Aside0.mk (hb);have n4_ := Aside0.mk (hi);clear BK267;clear HK;clear HB;clear HI0;have BK267 := n0_;have HO270 := n1_;have HK := n2_;have HB := n3_;have HI0 := n4_;clear n0_ n1_ n2_ n3_ n4_;(try clear hb);(try clear hb2);(try clear hk);(try clear hi);(try clear ho0))|((with_reducible refine gate_dst (N := 3) rfl ?_);refine box_event ?hg (N := 3) ?hd (cs := #[.slice none 0 0]) (t := 31) ?hr ?_;(case hd => rfl);(case hg => rfl);(case hr => first|(go_simp;done)|(go_simp;rfl));intro gb272 hg w36 hbox hb;have n0_ := Aside0.mk (Kd.R_below (by (with_reducible repeat (first|apply Kd.R_alloc|apply Kd.R_drewN|apply Kd.R_drew));exact HO270.out) hb);have n1_ := Aside0.mk (IsS82.below (by repeat (first|(with_reducible first|exact HI0.out|apply IsS82.alloc|apply IsS82.drewN|apply IsS82.drew|apply IsS82.set_1|refine IsS82.far ?_ NB0_267.out _)|exact HI0.out)) hb);have n2_ := Aside0.mk (blk_below (g := gb267) (o := .cells #[.slice none 0 0] 31 (0,0)) (by (with_reducible repeat (first|refine blk_drewN ?_ _|refine blk_drew ?_|refine blk_alloc ?_ _));exact BK267.out) hb);have n3_ := Aside0.mk (KeepBut.trans (by repeat (first|(with_reducible first|exact HK.out|apply KeepBut.set_|apply keep_drewN|apply keep_drew|apply keep_alloc|refine keep_far ?_ GW267.out _)|exact HK.out)) (KeepBut.of_below hb g none) (.inl rfl));have n4_ := Aside0.mk (below_step (by repeat (first|(with_reducible first|exact HB.out|apply below_alloc|apply pw_below_drewN|apply below_drew1|refine below_set ?_ (IsS82.ge HI0.out)|refine below_set ?_ GE267.out)|exact HB.out)) hb);have n5_ := Aside0.mk (hbox);have n6_ := Aside0.mk ((by rw [hg];exact (keep_size (w := w) (g := g) (row := none) (by repeat (first|(with_reducible first|exact HK.out|apply KeepBut.set_|apply keep_drewN|apply keep_drew|apply keep_alloc|refine keep_far ?_ GW267.out _)|exact HK.out))) : w.heap.size ≤ gb272));have n7_ := Aside0.mk ((Nat.le_trans HW0.out (by rw [hg];exact (keep_size (w := w) (g := g) (row := none) (by repeat (first|(with_reducible first|exact HK.out|apply KeepBut.set_|apply keep_drewN|apply keep_drew|apply keep_alloc|refine keep_far ?_ GW267.out _)|exact HK.out))) : w.heap.size ≤ gb272) : w0.heap.size ≤ gb272));have n8_ := Aside0.mk ((by rw [hg];exact Nat.ne_of_lt (blk_lt (g := gb267) (o := .cells #[.slice none 0 0] 31 (0,0)) (by (with_reducible repeat (first|refine blk_drewN ?_ _|refine blk_drew ?_|refine blk_alloc ?_ _));exact BK267.out)) : gb267 ≠ gb272));have n9_ := Aside0.mk ((by rw [hg];exact Nat.ne_of_gt (blk_lt (g := gb267) (o := .cells #[.slice none 0 0] 31 (0,0)) (by (with_reducible repeat (first|refine blk_drewN ?_ _|refine blk_drew ?_|refine blk_alloc ?_ _));exact BK267.out)) : gb272 ≠ gb267));have n10_ := Aside0.mk ((by rw [hg];exact Nat.ne_of_lt (IsS82.lt (show IsS82 w0 _ g s0_0 t271 from by repeat (first|(with_reducible first|exact HI0.out|apply IsS82.alloc|apply IsS82.drewN|apply IsS82.drew|apply IsS82.set_1|refine IsS82.far ?_ NB0_267.out _)|exact HI0.out))) : g ≠ gb272));have n11_ := Aside0.mk ((by rw [hg];exact Nat.ne_of_gt (IsS82.lt (show IsS82 w0 _ g s0_0 t271 from by repeat (first|(with_reducible first|exact HI0.out|apply IsS82.alloc|apply IsS82.drewN|apply IsS82.drew|apply IsS82.set_1|refine IsS82.far ?_ NB0_267.out _)|exact HI0.out))) : gb272 ≠ g));clear HO270;clear HI0;clear BK267;clear HK;clear HB;have HO270 := n0_;have HI0 := n1_;have BK267 := n2_;have HK := n3_;have HB := n4_;have BK272 := n5_;have GW272 := n6_;have GE272 := n7_;have NB267_272 := n8_;have NB272_267 := n9_;have NB0_272 := n10_;have NB272_0 := n11_;clear n0_ n1_ n2_ n3_ n4_ n5_ n6_ n7_ n8_ n9_ n10_ n11_;clear hb hbox hg;obtain ⟨Ao37,co37,eo37⟩ := Kd.R_slice HO270.out;subst eo37;have hnb38 := NB272_267.out;have hnc38 := NB267_272.out;have hnb39 := NB272_0.out;have hnc39 := NB0_272.out;have hcz40_0 : w36.cell? ⟨gb272,0,none⟩ = some (.slice none 0 0) := (blk_cell BK272.out 0).trans rfl;have hfz40_0 := blk_frozen BK272.out 0)|((with_reducible refine gate_callee (f := 51) rfl ?_);refine goesL_ (some 11) rfl rfl Try.func51 (by kernel_rfl) rfl #[.pointer (some ⟨g,0,none⟩),.int .i64 (t268.length : Int)] rfl (by (try simp only [List.map_toArray,List.map_cons,List.map_nil]);first|done|rfl|(simp only [List.length_drop,List.length_take];rfl)) ?_;(with_reducible refine (spec_reader_pick.calls k g s0_0 t271 (t268.length : Int) t273 t274 w0 _ ?side1 ?side2 A3.out).mono ?_);(case side1 => repeat (first|(with_reducible first|exact HI0.out|apply IsS82.alloc|apply IsS82.drewN|apply IsS82.drew|apply IsS82.set_1|refine IsS82.far ?_ NB0_267.out _|refine IsS82.far ?_ NB0_272.out _)|exact HI0.out));(case side2 => repeat (first|(with_reducible first|exact HB.out|apply below_alloc|apply pw_below_drewN|apply below_drew1|refine below_set ?_ (IsS82.ge HI0.out)|refine below_set ?_ GE267.out|refine below_set ?_ GE272.out)|exact HB.out));rintro e w41 ⟨rfl,hi,hb,hk⟩;refine ⟨_,rfl,?_⟩;have n0_ := Aside0.mk (KeepBut.blk hk (g' := gb267) (o := .cells #[.slice none 0 0] 31 (0,0)) (by (with_reducible repeat (first|refine blk_drewN ?_ _|refine blk_drew ?_|refine blk_alloc ?_ _));refine blk_far ?_ NB267_272.out _;(with_reducible repeat (first|refine blk_drewN ?_ _|refine blk_drew ?_|refine blk_alloc ?_ _));exact BK267.out) NB267_0.out (by simp));have n1_ := Aside0.mk (Kd.R_mono (Kd.R_keep (IsS82.apart (show IsS82 w0 _ g s0_0 t271 from by repeat (first|(with_reducible first|exact HI0.out|apply IsS82.alloc|apply IsS82.drewN|apply IsS82.drew|apply IsS82.set_1|refine IsS82.far ?_ NB0_267.out _|refine IsS82.far ?_ NB0_272.out _)|exact HI0.out)) (by (with_reducible repeat (first|apply Kd.R_alloc|apply Kd.R_drewN|apply Kd.R_drew));exact (Kd.R_mono (Kd.R_far (p := ⟨gb272,0,none⟩) (Kd.R_types HO270.out BK272.out (by decide)) (fun _ hk => hk.2) (.slice Ao37 t268.length co37)) (fun _ h_ => h_.1))) (by decide)) hk (fun _ h => h.2)) (fun _ h => h.1));have n2_ := Aside0.mk (KeepBut.blk hk (g' := gb272) (o := .cells #[.slice Ao37 t268.length co37] 31 (0,0)) (by (with_reducible repeat (first|refine blk_drewN ?_ _|refine blk_drew ?_|refine blk_alloc ?_ _));refine blk_put (cs := #[.slice none 0 0]) ?_ 0 _ rfl;(with_reducible repeat (first|refine blk_drewN ?_ _|refine blk_drew ?_|refine blk_alloc ?_ _));exact BK272.out) NB272_0.out (by simp));have n3_ := Aside0.mk (KeepBut.trans (by repeat (first|(with_reducible first|exact HK.out|apply KeepBut.set_|apply keep_drewN|apply keep_drew|apply keep_alloc|refine keep_far ?_ GW267.out _|refine keep_far ?_ GW272.out _)|exact HK.out)) hk (.inl rfl));have n4_ := Aside0.mk (hb);have n5_ := Aside0.mk (hi);clear BK267;clear HO270;clear BK272;clear HK;clear HB;clear HI0;have BK267 := n0_;have HO270 := n1_;have BK272 := n2_;have HK := n3_;have HB := n4_;have HI0 := n5_;clear n0_ n1_ n2_ n3_ n4_ n5_;(try clear hb);(try clear hb2);(try clear hk);(try clear hi))|((with_reducible refine gate_callee (f := 51) rfl ?_);refine goesL_ (some 13) rfl rfl Try.func51 (by kernel_rfl) rfl #[.pointer (some ⟨g,0,none⟩),.int .i64 24] rfl (by (try simp only [List.map_toArray,List.map_cons,List.map_nil]);first|done|rfl|(simp only [List.length_drop,List.length_take];rfl)) ?_;(with_reducible refine (spec_reader_pick.calls k g s0_0 t274 24 t275 t276 w0 _ ?side1 ?side2 A4.out).mono ?_);(case side1 => repeat (first|(with_reducible first|exact HI0.out|apply IsS82.alloc|apply IsS82.drewN|apply IsS82.drew|apply IsS82.set_1|refine IsS82.far ?_ NB0_267.out _|refine IsS82.far ?_ NB0_272.out _)|exact HI0.out));(case side2 => repeat (first|(with_reducible first|exact HB.out|apply below_alloc|apply pw_below_drewN|apply below_drew1|refine below_set ?_ (IsS82.ge HI0.out)|refine below_set ?_ GE267.out|refine below_set ?_ GE272.out)|exact HB.out));rintro e w42 ⟨rfl,hi,hb,hk⟩;refine ⟨_,rfl,?_⟩;have n0_ := Aside0.mk (KeepBut.blk hk (g' := gb267) (o := .cells #[.slice none 0 0] 31 (0,0)) (by (with_reducible repeat (first|refine blk_drewN ?_ _|refine blk_drew ?_|refine blk_alloc ?_ _));exact BK267.out) NB267_0.out (by simp));have n1_ := Aside0.mk (Kd.R_mono (Kd.R_keep (IsS82.apart (show IsS82 w0 _ g s0_0 t274 from by repeat (first|(with_reducible first|exact HI0.out|apply IsS82.alloc|apply IsS82.drewN|apply IsS82.drew|apply IsS82.set_1|refine IsS82.far ?_ NB0_267.out _|refine IsS82.far ?_ NB0_272.out _)|exact HI0.out)) (by (with_reducible repeat (first|apply Kd.R_alloc|apply Kd.R_drewN|apply Kd.R_drew));exact HO270.out) (by decide)) hk (fun _ h => h.2)) (fun _ h => h.1));have n2_ := Aside0.mk (KeepBut.blk hk (g' := gb272) (o := .cells #[.slice Ao37 t268.length co37] 31 (0,0)) (by (with_reducible repeat (first|refine blk_drewN ?_ _|refine blk_drew ?_|refine blk_alloc ?_ _));exact BK272.out) NB272_0.out (by simp));have n3_ := Aside0.mk (KeepBut.trans (by repeat (first|(with_reducible first|exact HK.out|apply KeepBut.set_|apply keep_drewN|apply keep_drew|apply keep_alloc|refine keep_far ?_ GW267.out _|refine keep_far ?_ GW272.out _)|exact HK.out)) hk (.inl rfl));have n4_ := Aside0.mk (hb);have n5_ := Aside0.mk (hi);clear BK267;clear HO270;clear BK272;clear HK;clear HB;clear HI0;have BK267 := n0_;have HO270 := n1_;have BK272 := n2_;have HK := n3_;have HB := n4_;have HI0 := n5_;clear n0_ n1_ n2_ n3_ n4_ n5_;(try clear hb);(try clear hb2);(try clear hk);(try clear hi)))
     have n0_ := Aside0.mk (Kd.R_drew HO270.out)
     have n1_ := Aside0.mk (blk_drew BK267.out)
     have n2_ := Aside0.mk (blk_drew BK272.out)
     have n3_ := Aside0.mk (IsS82.drew HI0.out)
     have n4_ := Aside0.mk (keep_drew HK.out)
     have n5_ := Aside0.mk (below_drew1 HB.out)
     clear HO270
     clear BK267
     clear BK272
     clear HI0
     clear HK
     clear HB
     have HO270 := n0_
     have BK267 := n1_
     have BK272 := n2_
     have HI0 := n3_
     have HK := n4_
     have HB := n5_
     clear n0_ n1_ n2_ n3_ n4_ n5_
     refine start_ (n := 10) (S := fun w' => w'.cell? ⟨gb272,0,none⟩ = some (.slice Ao37 t268.length co37)) (ds := [9]) #[false,false,false,false,false,false,false,false,false,false] (by kernel_rfl) rfl rfl ((blk_cell BK272.out 0).trans rfl) (fun hHeld => ?_);refine with_tabW spec_someTree.tab7 spec_someTree.bits7 (fun HT_ HW_ => ?_)
     generalize w42.drew = w43 at HO270 BK267 BK272 HI0 HK HB hHeld ⊢
     refine pure_ (i := 0) (N := some 26) (v := ?_) (a' := ?_) #[true,false,false,false,false,false,false,false,false,false] rfl rfl (any_of HT_.out (by kernel_rfl)) (fun _ _ _ h => h) (Or.inl ⟨by rfl,?_⟩) ?_ ?_
     rotate_left
     ·intro w'
      go_simp
      with_reducible rfl
     rotate_left
     ·simp only [Act.put,List.setIfInBounds_toArray,List.set_cons_zero,List.set_cons_succ,i64_w,i32_w]
      rfl
     refine pure_ (i := 2) (N := some 28) (v := ?_) (a' := ?_) #[true,false,true,false,false,false,false,false,false,false] rfl rfl (any_of HT_.out (by kernel_rfl)) (fun _ _ _ h => h) (Or.inl ⟨by rfl,?_⟩) ?_ ?_
     rotate_left
     ·intro w'
      go_simp
      with_reducible rfl
     rotate_left
     ·simp only [Act.put,List.setIfInBounds_toArray,List.set_cons_zero,List.set_cons_succ,i64_w,i32_w]
      rfl
     refine pure_ (i := 3) (N := some 29) (v := ?_) (a' := ?_) #[true,false,true,true,false,false,false,false,false,false] rfl rfl (any_of HT_.out (by kernel_rfl)) (fun _ _ _ h => h) (Or.inl ⟨by rfl,?_⟩) ?_ ?_
     rotate_left
     ·intro w'
      go_simp
      with_reducible rfl
     rotate_left
     ·simp only [Act.put,List.setIfInBounds_toArray,List.set_cons_zero,List.set_cons_succ,i64_w,i32_w]
      rfl
     refine pure_ (i := 4) (N := some 30) (v := ?_) (a' := ?_) #[true,false,true,true,true,false,false,false,false,false] rfl rfl (any_of HT_.out (by kernel_rfl)) (fun _ _ _ h => h) (Or.inl ⟨by rfl,?_⟩) ?_ ?_
     rotate_left
     ·intro w'
      go_simp
      with_reducible rfl
     rotate_left
     ·simp only [Act.put,List.setIfInBounds_toArray,List.set_cons_zero,List.set_cons_succ,i64_w,i32_w]
      rfl
     refine take_ (i := 1) (N := some 27) (v := ?_) (a' := ?_) #[true,true,true,true,true,false,false,false,false,false] rfl rfl (take_ofW HT_.out HW_.out (by kernel_rfl)) (fun _ _ _ h => h) (Or.inl ⟨by rfl,?_⟩) hHeld ?_ ?_
     rotate_left
     ·intro w' s0
      go_simp
      with_reducible rfl
     rotate_left
     ·simp only [Act.put,List.setIfInBounds_toArray,List.set_cons_zero,List.set_cons_succ,i64_w,i32_w]
      rfl
     refine one_ (i := 5) (N := some 31) #[true,true,true,true,true,true,false,false,false,false] rfl rfl (one_of HT_.out (by kernel_rfl)) (by decide) (fun K hK => ?_)
     refine Kd.R_lit_step (Kd.int .i64) _ 3 ?hg (N := 31) ?hd (xs := ([t273,(-1),8,(-2)] : List Int)) (inner := [.int .i64 t273,.int .i64 (-1),.int .i64 8,.int .i64 (-2)]) (ok := fun _ => True) (okp := fun _ => True) ?hr ?hp (fun _ hk => hk) trivial (Below.refl _ _) (Nat.le_refl _) (by simp) ?_;(case hd => rfl);(case hg => rfl);(case hr => first|(go_simp;done)|(go_simp;rfl));(case hp => exact (Reps.one (show Kd.M (Kd.int .i64) _ _ _ t273 [.int .i64 t273] from rfl) (Reps.one (show Kd.M (Kd.int .i64) _ _ _ (-1) [.int .i64 (-1)] from rfl) (Reps.one (show Kd.M (Kd.int .i64) _ _ _ 8 [.int .i64 8] from rfl) (Reps.one (show Kd.M (Kd.int .i64) _ _ _ (-2) [.int .i64 (-2)] from rfl) (Reps.none _ _))))))
     intro v284 w44 ho45 hb hg_ hnew_
     clear hg_ hnew_
     (first|rw [← Ny283.out] at ho45|(simp only [Int.reduceToNat] at ho45;rw [← Ny283.out] at ho45))
     have n0_ := Aside0.mk (Kd.R_below (by (with_reducible repeat (first|apply Kd.R_alloc|apply Kd.R_drewN|apply Kd.R_drew));exact HO270.out) hb)
     have n1_ := Aside0.mk (Kd.R_lower ho45 (keep_size (w := w) (g := g) (row := none) (by repeat (first|(with_reducible first|exact HK.out|apply KeepBut.set_|apply keep_drewN|apply keep_drew|apply keep_alloc|refine keep_far ?_ GW267.out _|refine keep_far ?_ GW272.out _)|exact HK.out))))
     have n2_ := Aside0.mk (IsS82.below (by repeat (first|(with_reducible first|exact HI0.out|apply IsS82.alloc|apply IsS82.drewN|apply IsS82.drew|apply IsS82.set_1|refine IsS82.far ?_ NB0_267.out _|refine IsS82.far ?_ NB0_272.out _)|exact HI0.out)) hb)
     have n3_ := Aside0.mk (blk_below (g := gb267) (o := .cells #[.slice none 0 0] 31 (0,0)) (by (with_reducible repeat (first|refine blk_drewN ?_ _|refine blk_drew ?_|refine blk_alloc ?_ _));exact BK267.out) hb)
     have n4_ := Aside0.mk (blk_below (g := gb272) (o := .cells #[.slice Ao37 t268.length co37] 31 (0,0)) (by (with_reducible repeat (first|refine blk_drewN ?_ _|refine blk_drew ?_|refine blk_alloc ?_ _));exact BK272.out) hb)
     have n5_ := Aside0.mk (KeepBut.trans (by repeat (first|(with_reducible first|exact HK.out|apply KeepBut.set_|apply keep_drewN|apply keep_drew|apply keep_alloc|refine keep_far ?_ GW267.out _|refine keep_far ?_ GW272.out _)|exact HK.out)) (KeepBut.of_below hb g none) (.inl rfl))
     have n6_ := Aside0.mk (below_step (by repeat (first|(with_reducible first|exact HB.out|apply below_alloc|apply pw_below_drewN|apply below_drew1|refine below_set ?_ (IsS82.ge HI0.out)|refine below_set ?_ GE267.out|refine below_set ?_ GE272.out)|exact HB.out)) hb)
     clear HO270
     clear HI0
     clear BK267
     clear BK272
     clear HK
     clear HB
     have HO270 := n0_
     have HO285 := n1_
     have HI0 := n2_
     have BK267 := n3_
     have BK272 := n4_
     have HK := n5_
     have HB := n6_
     clear n0_ n1_ n2_ n3_ n4_ n5_ n6_
     clear hb ho45
     obtain ⟨Ao46,co46,eo46⟩ := Kd.R_slice HO285.out
     (first|subst eo46|(injection eo46 with f1_ f2_ f3_;have f4_ := f1_.symm;have f5_ := f3_.symm;clear f1_ f2_ f3_;subst f4_;subst f5_))
     refine hK.out _ _ ((blk_cell BK272.out 0).trans rfl) (fun hHeld => ?_)
     clear hK K
     refine norm_ (a' := ?_) ?_ ?_
     rotate_left
     ·show Act.put _ (some 31) _ = _
      simp only [Act.put,List.setIfInBounds_toArray,List.set_cons_zero,List.set_cons_succ,i64_w,i32_w]
      rfl
     refine one_ (i := 6) (N := some 32) #[true,true,true,true,true,true,true,false,false,false] rfl rfl (one_of HT_.out (by kernel_rfl)) (by decide) (fun K hK => ?_)
     refine goes_ Try.func52 (by kernel_rfl) rfl #[.pointer (some ⟨g,0,none⟩),.slice Ao46 y283.length co46] (by rfl) rfl rfl (by (try simp only [List.map_toArray,List.map_cons,List.map_nil]);first|done|rfl|(simp only [List.length_drop,List.length_take];rfl)) ?_
     with_reducible refine (spec_reader_one.calls k g s0_0 t276 _ _ y283 t286 t287 w0 _ ?side1 ?side2 ?side3 ?side4 ?side5 A30.out).mono ?_
     (case side1 => repeat (first|(with_reducible first|exact HI0.out|apply IsS82.alloc|apply IsS82.drewN|apply IsS82.drew|apply IsS82.set_1|refine IsS82.far ?_ NB0_267.out _|refine IsS82.far ?_ NB0_272.out _)|exact HI0.out))
     (case side2 => repeat (first|(with_reducible first|exact HB.out|apply below_alloc|apply pw_below_drewN|apply below_drew1|refine below_set ?_ (IsS82.ge HI0.out)|refine below_set ?_ GE267.out|refine below_set ?_ GE272.out)|exact HB.out))
     (case side3 => repeat (first|exact (Kd.R_reads' HO285.out).2.2|(with_reducible refine Kd.C_alloc ?_ _)|(with_reducible refine Kd.C_drewN ?_ _)|(with_reducible refine Kd.C_drew ?_)))
     (case side4 => exact (Kd.R_reads' HO285.out).2.1)
     (case side5 => exact far_slice (IsS82.own_ne HI0.out HO285.out (by decide)))
     rintro e w47 ⟨rfl,hi,hb,hk⟩
     refine ⟨_,rfl,?_⟩
     have n0_ := Aside0.mk (KeepBut.blk hk (g' := gb267) (o := .cells #[.slice none 0 0] 31 (0,0)) (by (with_reducible repeat (first|refine blk_drewN ?_ _|refine blk_drew ?_|refine blk_alloc ?_ _));exact BK267.out) NB267_0.out (by simp))
     have n1_ := Aside0.mk (Kd.R_mono (Kd.R_keep (IsS82.apart (show IsS82 w0 _ g s0_0 t276 from by repeat (first|(with_reducible first|exact HI0.out|apply IsS82.alloc|apply IsS82.drewN|apply IsS82.drew|apply IsS82.set_1|refine IsS82.far ?_ NB0_267.out _|refine IsS82.far ?_ NB0_272.out _)|exact HI0.out)) (by (with_reducible repeat (first|apply Kd.R_alloc|apply Kd.R_drewN|apply Kd.R_drew));exact HO270.out) (by decide)) hk (fun _ h => h.2)) (fun _ h => h.1))
     have n2_ := Aside0.mk (KeepBut.blk hk (g' := gb272) (o := .cells #[.slice Ao37 t268.length co37] 31 (0,0)) (by (with_reducible repeat (first|refine blk_drewN ?_ _|refine blk_drew ?_|refine blk_alloc ?_ _));exact BK272.out) NB272_0.out (by simp))
     have n3_ := Aside0.mk (Kd.R_mono (Kd.R_keep (IsS82.apart (show IsS82 w0 _ g s0_0 t276 from by repeat (first|(with_reducible first|exact HI0.out|apply IsS82.alloc|apply IsS82.drewN|apply IsS82.drew|apply IsS82.set_1|refine IsS82.far ?_ NB0_267.out _|refine IsS82.far ?_ NB0_272.out _)|exact HI0.out)) (by (with_reducible repeat (first|apply Kd.R_alloc|apply Kd.R_drewN|apply Kd.R_drew));exact HO285.out) (by decide)) hk (fun _ h => h.2)) (fun _ h => h.1))
     have n4_ := Aside0.mk (KeepBut.trans (by repeat (first|(with_reducible first|exact HK.out|apply KeepBut.set_|apply keep_drewN|apply keep_drew|apply keep_alloc|refine keep_far ?_ GW267.out _|refine keep_far ?_ GW272.out _)|exact HK.out)) hk (.inl rfl))
     have n5_ := Aside0.mk (hb)
     have n6_ := Aside0.mk (hi)
     clear BK267
     clear HO270
     clear BK272
     clear HO285
     clear HK
     clear HB
     clear HI0
     have BK267 := n0_
     have HO270 := n1_
     have BK272 := n2_
     have HO285 := n3_
     have HK := n4_
     have HB := n5_
     have HI0 := n6_
     clear n0_ n1_ n2_ n3_ n4_ n5_ n6_
     (try clear hb)
     (try clear hb2)
     (try clear hk)
     (try clear hi)
     have p33 : 0 ≤ (t273 : Int) := of_decide_eq_true (by first|(with_reducible assumption)|assumption)
     have q33 : (t273 : Int) < ((t268.length : Int) : Int) := of_decide_eq_true (by first|(with_reducible assumption)|assumption)
     obtain ⟨go33,co33,eo33,gb33,gl33,cl33,HG33⟩ := Kd.R_form HO270.out (by omega)
     (first|cases eo33|(injection eo33 with ea_ en_ ec_;(first|subst ea_|(injection ea_ with ea_;subst ea_));subst ec_;clear en_))
     have GB33 := Aside0.mk gb33
     have GG33 := Aside0.mk HG33
     clear gb33 gl33 HG33
     obtain ⟨ce33,hcl33,hM33,hcc33,hfr33⟩ := Kd.R_elem HO270.out z70 (t273 : Int) p33 q33
     obtain rfl := k70_openM hM33
     have hx33_0 : World.cell? _ ⟨go33,(t273 : Int).toNat * 2,none⟩ = some (.string ((rd_T70 t268 t273).f0)) := hcc33 0 _ rfl
     have hx33_1 : World.cell? _ ⟨go33,(t273 : Int).toNat * 2 + 1,none⟩ = some (.int .i64 ((rd_T70 t268 t273).f1)) := hcc33 1 _ rfl
     have hf33_0 : World.frozen? _ ⟨go33,(t273 : Int).toNat * 2,none⟩ = false := hfr33 0
     have hf33_1 : World.frozen? _ ⟨go33,(t273 : Int).toNat * 2 + 1,none⟩ = false := hfr33 1
     clear hcl33 hcc33 hfr33 hM33
     replace p33 := eq_true p33
     replace q33 := eq_true q33
     have HN0_go33 := Aside0.mk (show g ≠ go33 from by have h_ := IsS82.own_ne HI0.out HO270.out (by decide);intro e_;exact h_ (by rw [e_];rfl))
     obtain ⟨ce48,hcl48,hM48,hcc48,hfr48⟩ := Kd.R_elem HO270.out z70 (t273 : Int) (of_decide_eq_true (by first|(with_reducible assumption)|assumption)) (by have h_ : (t273 : Int) < ((t268.length : Int) : Int) := of_decide_eq_true (by first|(with_reducible assumption)|assumption);first|exact h_|(have e_ := (Kd.R_reads' HO270.out).1;omega)|simpa using h_)
     obtain rfl := k70_openM hM48
     have HP48 := (Kd.R_seg HO270.out (t273 : Int) (of_decide_eq_true (by first|(with_reducible assumption)|assumption)) (by have h_ : (t273 : Int) < ((t268.length : Int) : Int) := of_decide_eq_true (by first|(with_reducible assumption)|assumption);first|exact h_|(have e_ := (Kd.R_reads' HO270.out).1;omega)|simpa using h_) (seg := [.int .i64 t286]) (j := 1) hcl48 hcc48 (show 2 ≤ 2 from by decide) (x' := (⟨(rd_T70 t268 t273).f0,t286⟩ : S70)) (k70_mkM _ _ _ (⟨(rd_T70 t268 t273).f0,t286⟩ : S70) ) (fun _ hk => hk)).1
     rw [← Ny288.out] at HP48
     have HQ48 := Aside0.mk HP48
     clear hcl48 hcc48 hfr48 hM48 HP48
     refine hK.out _ _ ((blk_cell BK272.out 0).trans rfl) (fun hHeld => ?_)
     clear hK K
     refine norm_ (a' := ?_) ?_ ?_
     rotate_left
     ·show Act.put _ (some 32) _ = _
      simp only [Act.put,List.setIfInBounds_toArray,List.set_cons_zero,List.set_cons_succ,i64_w,i32_w]
      rfl
     refine pure_ (i := 7) (N := some 33) (v := ?_) (a' := ?_) #[true,true,true,true,true,true,true,true,false,false] rfl rfl (any_of HT_.out (by kernel_rfl)) (fun _ _ _ h => h) (Or.inl ⟨by rfl,?_⟩) ?_ ?_
     rotate_left
     ·intro w'
      go_simp
      with_reducible rfl
     rotate_left
     ·simp only [Act.put,List.setIfInBounds_toArray,List.set_cons_zero,List.set_cons_succ,i64_w,i32_w]
      rfl
     refine pure_ (i := 8) (N := some 34) (v := ?_) (a' := ?_) #[true,true,true,true,true,true,true,true,true,false] rfl rfl (any_of HT_.out (by kernel_rfl)) (fun _ _ _ h => h) (Or.inl ⟨by rfl,?_⟩) ?_ ?_
     rotate_left
     ·intro w'
      go_simp
      with_reducible rfl
     rotate_left
     ·simp only [Act.put,List.setIfInBounds_toArray,List.set_cons_zero,List.set_cons_succ,i64_w,i32_w]
      rfl
     refine last_ (i := 9) (N := none) #[true,true,true,true,true,true,true,true,true,true] rfl rfl (one_of HT_.out (by kernel_rfl)) (by decide) (fun K hK => ?_)
     refine skip_ (w1 := ?_) (by rfl) rfl ?_ ?_
     rotate_left
     ·go_simp
      rfl
     refine hK.out _ _ ?_
     clear hK K
     refine done_ (done_of HT_.out (by kernel_rfl)) ?_
     have n0_ : Aside0 (Kd.R k70 70 (w47.setCell ⟨go33,(t273 : Int).toNat * 2 + 1,none⟩ (.int .i64 t286)) w.heap.size (fun _ => True) (.slice (some ⟨go33,0,none⟩) t268.length co37) y288) := ⟨by (with_reducible repeat (first|apply Kd.R_alloc|apply Kd.R_drewN|apply Kd.R_drew));exact HQ48.out⟩
     have n1_ : Aside0 (Kd.R (Kd.int .i64) 3 (w47.setCell ⟨go33,(t273 : Int).toNat * 2 + 1,none⟩ (.int .i64 t286)) w.heap.size (fun _ => True) (.slice Ao46 y283.length co46) y283) := ⟨by (with_reducible repeat (first|apply Kd.R_alloc|apply Kd.R_drewN|apply Kd.R_drew));exact Kd.R_mono (Kd.R_far (p := ⟨go33,(t273 : Int).toNat * 2 + 1,none⟩) (Kd.R_types HO285.out GG33.out (by decide)) (fun _ hk => hk.2) (.int .i64 t286)) (fun _ hk => trivial)⟩
     have n2_ : Aside0 ((w47.setCell ⟨go33,(t273 : Int).toNat * 2 + 1,none⟩ (.int .i64 t286)).heap[gb267]? = some (.cells #[.slice none 0 0] 31 (0,0))) := ⟨by (with_reducible repeat (first|refine blk_drewN ?_ _|refine blk_drew ?_|refine blk_alloc ?_ _));refine blk_far ?_ (by have h_ := Kd.R_ne HO270.out BK267.out (by decide);intro e_;exact h_ (by rw [e_];rfl)) _;(with_reducible repeat (first|refine blk_drewN ?_ _|refine blk_drew ?_|refine blk_alloc ?_ _));exact BK267.out⟩
     have n3_ : Aside0 ((w47.setCell ⟨go33,(t273 : Int).toNat * 2 + 1,none⟩ (.int .i64 t286)).heap[gb272]? = some (.cells #[.slice (some ⟨go33,0,none⟩) t268.length co37] 31 (0,0))) := ⟨by (with_reducible repeat (first|refine blk_drewN ?_ _|refine blk_drew ?_|refine blk_alloc ?_ _));refine blk_far ?_ (by have h_ := Kd.R_ne HO270.out BK272.out (by decide);intro e_;exact h_ (by rw [e_];rfl)) _;(with_reducible repeat (first|refine blk_drewN ?_ _|refine blk_drew ?_|refine blk_alloc ?_ _));exact BK272.out⟩
     have n4_ : Aside0 (IsS82 w0 (w47.setCell ⟨go33,(t273 : Int).toNat * 2 + 1,none⟩ (.int .i64 t286)) g s0_0 t287) := ⟨by repeat (first|(with_reducible first|exact HI0.out|apply IsS82.alloc|apply IsS82.drewN|apply IsS82.drew|apply IsS82.set_1|refine IsS82.far ?_ HN0_go33.out _|refine IsS82.far ?_ NB0_267.out _|refine IsS82.far ?_ NB0_272.out _)|exact HI0.out)⟩
     have n5_ : Aside0 (KeepBut w (w47.setCell ⟨go33,(t273 : Int).toNat * 2 + 1,none⟩ (.int .i64 t286)) g none) := ⟨by repeat (first|(with_reducible first|exact HK.out|apply KeepBut.set_|apply keep_drewN|apply keep_drew|apply keep_alloc|refine keep_far ?_ GB33.out _|refine keep_far ?_ GW267.out _|refine keep_far ?_ GW272.out _)|exact HK.out)⟩
     have n6_ : Aside0 (Below w0.heap.size w0 (w47.setCell ⟨go33,(t273 : Int).toNat * 2 + 1,none⟩ (.int .i64 t286))) := ⟨by repeat (first|(with_reducible first|exact HB.out|apply below_alloc|apply pw_below_drewN|apply below_drew1|refine below_set ?_ (Nat.le_trans HL.out GB33.out)|refine below_set ?_ (IsS82.ge HI0.out)|refine below_set ?_ GE267.out|refine below_set ?_ GE272.out)|exact HB.out)⟩
     (try clear HO270)
     (try clear HO285)
     (try clear BK267)
     (try clear BK272)
     (try clear HI0)
     (try clear HK)
     (try clear HB)
     generalize (w47.setCell ⟨go33,(t273 : Int).toNat * 2 + 1,none⟩ (.int .i64 t286)) = w49 at n0_ n1_ n2_ n3_ n4_ n5_ n6_ ⊢
     have HO270 := n0_
     have HO285 := n1_
     have BK267 := n2_
     have BK272 := n3_
     have HI0 := n4_
     have HK := n5_
     have HB := n6_
     clear n0_ n1_ n2_ n3_ n4_ n5_ n6_
     have hcz50_0 : w49.cell? ⟨gb272,0,none⟩ = some (.slice (some ⟨go33,0,none⟩) t268.length co37) := (blk_cell BK272.out 0).trans rfl
     have hfz50_0 := blk_frozen BK272.out 0
     have hnb51 := NB267_0.out
     have hnc51 := NB0_267.out
     have hcz52_0 : w49.cell? ⟨gb267,0,none⟩ = some (.slice none 0 0) := (blk_cell BK267.out 0).trans rfl
     have hfz52_0 := blk_frozen BK267.out 0
     try go_wp2
     refine bodyPost_ret (results_cell_row rfl _ _ gb267 31 #[.slice (some ⟨go33,0,none⟩) t268.length co37] (0,0) _ rfl (by (with_reducible repeat (first|refine blk_drewN ?_ _|refine blk_drew ?_|refine blk_alloc ?_ _));refine blk_put (cs := #[.slice none 0 0]) ?_ 0 _ rfl;(with_reducible repeat (first|refine blk_drewN ?_ _|refine blk_drew ?_|refine blk_alloc ?_ _));exact BK267.out) Try.underlying31 rfl (by kernel_rfl)) rfl ?_
     exact ⟨_,by first|rfl|(simp [errW_none,errW_some] <;> rfl)|(simp [*,errW_none,errW_some] <;> rfl),by (with_reducible repeat (first|apply Kd.R_alloc|apply Kd.R_drewN|apply Kd.R_drew));exact Kd.R_mono (Kd.R_far (p := ⟨gb267,0,none⟩) (Kd.R_types HO270.out BK267.out (by decide)) (fun _ hk => hk.2) (.slice (some ⟨go33,0,none⟩) t268.length co37)) (fun _ hk => trivial),by repeat (first|(with_reducible first|exact HI0.out|apply IsS82.alloc|apply IsS82.drewN|apply IsS82.drew|apply IsS82.set_1|refine IsS82.far ?_ NB0_267.out _|refine IsS82.far ?_ NB0_272.out _)|exact HI0.out),by repeat (first|(with_reducible first|exact HB.out|apply below_alloc|apply pw_below_drewN|apply below_drew1|refine below_set ?_ (IsS82.ge HI0.out)|refine below_set ?_ GE267.out|refine below_set ?_ GE272.out)|exact HB.out),by repeat (first|(with_reducible first|exact HK.out|apply KeepBut.set_|apply keep_drewN|apply keep_drew|apply keep_alloc|refine keep_far ?_ GW267.out _|refine keep_far ?_ GW272.out _)|exact HK.out)⟩
    ·rw [if_neg c32] at H
     exact absurd H (by simp)
   ·rw [if_neg c31] at H
    exact absurd H (by simp)
  ·rw [if_neg c29] at H
   have c29b0 : (t275 == 1) = false := beq_eq_false_iff_ne.mpr c29
   have c29b1 : (t275 != 1) = true := bne_iff_ne.mpr c29
   by_cases c53 : t275 = 2
   ·rw [if_pos c53] at H
    have c53b0 : (t275 == 2) = true := beq_iff_eq.mpr c53
    have c53b1 : (t275 != 2) = false := bne_eq_false_iff_eq.mpr c53
    clear c53
    simp only [Option.some.injEq,Prod.mk.injEq] at H
    obtain ⟨rfl,rfl⟩ := H
    go_enter Try.func49,Try.ntmps49
    go_wp2_with (first|((with_reducible refine gate_dst (N := 2) rfl ?_);refine box_event ?hg (N := 2) ?hd (cs := #[.slice none 0 0]) (t := 31) ?hr ?_;(case hd => rfl);(case hg => rfl);(case hr => first|(go_simp;done)|(go_simp;rfl));intro gb267 hg w54 hbox hb;have n0_ := Aside0.mk (IsS82.below (by repeat (first|(with_reducible first|exact HI0.out|apply IsS82.alloc|apply IsS82.drewN|apply IsS82.drew|apply IsS82.set_1)|exact HI0.out)) hb);have n1_ := Aside0.mk (KeepBut.trans (by repeat (first|(with_reducible first|exact HK.out|apply KeepBut.set_|apply keep_drewN|apply keep_drew|apply keep_alloc)|exact HK.out)) (KeepBut.of_below hb g none) (.inl rfl));have n2_ := Aside0.mk (below_step (by repeat (first|(with_reducible first|exact HB.out|apply below_alloc|apply pw_below_drewN|apply below_drew1|refine below_set ?_ (IsS82.ge HI0.out))|exact HB.out)) hb);have n3_ := Aside0.mk (hbox);have n4_ := Aside0.mk ((by rw [hg];exact (keep_size (w := w) (g := g) (row := none) (by repeat (first|(with_reducible first|exact HK.out|apply KeepBut.set_|apply keep_drewN|apply keep_drew|apply keep_alloc)|exact HK.out))) : w.heap.size ≤ gb267));have n5_ := Aside0.mk ((Nat.le_trans HW0.out (by rw [hg];exact (keep_size (w := w) (g := g) (row := none) (by repeat (first|(with_reducible first|exact HK.out|apply KeepBut.set_|apply keep_drewN|apply keep_drew|apply keep_alloc)|exact HK.out))) : w.heap.size ≤ gb267) : w0.heap.size ≤ gb267));have n6_ := Aside0.mk ((by rw [hg];exact Nat.ne_of_lt (IsS82.lt (show IsS82 w0 _ g s0_0 s0_1 from by repeat (first|(with_reducible first|exact HI0.out|apply IsS82.alloc|apply IsS82.drewN|apply IsS82.drew|apply IsS82.set_1)|exact HI0.out))) : g ≠ gb267));have n7_ := Aside0.mk ((by rw [hg];exact Nat.ne_of_gt (IsS82.lt (show IsS82 w0 _ g s0_0 s0_1 from by repeat (first|(with_reducible first|exact HI0.out|apply IsS82.alloc|apply IsS82.drewN|apply IsS82.drew|apply IsS82.set_1)|exact HI0.out))) : gb267 ≠ g));clear HI0;clear HK;clear HB;have HI0 := n0_;have HK := n1_;have HB := n2_;have BK267 := n3_;have GW267 := n4_;have GE267 := n5_;have NB0_267 := n6_;have NB267_0 := n7_;clear n0_ n1_ n2_ n3_ n4_ n5_ n6_ n7_;clear hb hbox hg)|((with_reducible refine gate_callee (f := 61) rfl ?_);refine goesL_ (some 6) rfl rfl Try.func61 (by kernel_rfl) rfl #[.pointer (some ⟨g,0,none⟩)] rfl (by (try simp only [List.map_toArray,List.map_cons,List.map_nil]);first|done|rfl|(simp only [List.length_drop,List.length_take];rfl)) ?_;(with_reducible refine (spec_goodTree.calls k g s0_0 s0_1 t268 t271 w0 _ ?side1 ?side2 A2.out).mono ?_);(case side1 => repeat (first|(with_reducible first|exact HI0.out|apply IsS82.alloc|apply IsS82.drewN|apply IsS82.drew|apply IsS82.set_1|refine IsS82.far ?_ NB0_267.out _)|exact HI0.out));(case side2 => repeat (first|(with_reducible first|exact HB.out|apply below_alloc|apply pw_below_drewN|apply below_drew1|refine below_set ?_ (IsS82.ge HI0.out)|refine below_set ?_ GE267.out)|exact HB.out));rintro e w55 ⟨v269,rfl,ho0,hi,hb,hk⟩;refine ⟨_,rfl,?_⟩;have n0_ := Aside0.mk (KeepBut.blk hk (g' := gb267) (o := .cells #[.slice none 0 0] 31 (0,0)) (by (with_reducible repeat (first|refine blk_drewN ?_ _|refine blk_drew ?_|refine blk_alloc ?_ _));exact BK267.out) NB267_0.out (by simp));have n1_ := Aside0.mk (Kd.R_lower ho0 (keep_size (w := w) (g := g) (row := none) (by repeat (first|(with_reducible first|exact HK.out|apply KeepBut.set_|apply keep_drewN|apply keep_drew|apply keep_alloc|refine keep_far ?_ GW267.out _)|exact HK.out))));have n2_ := Aside0.mk (KeepBut.trans (by repeat (first|(with_reducible first|exact HK.out|apply KeepBut.set_|apply keep_drewN|apply keep_drew|apply keep_alloc|refine keep_far ?_ GW267.out _)|exact HK.out)) hk (.inl rfl));have n3_ := Aside0.mk (hb);have n4_ := Aside0.mk (hi);clear BK267;clear HK;clear HB;clear HI0;have BK267 := n0_;have HO270 := n1_;have HK := n2_;have HB := n3_;have HI0 := n4_;clear n0_ n1_ n2_ n3_ n4_;(try clear hb);(try clear hb2);(try clear hk);(try clear hi);(try clear ho0))|((with_reducible refine gate_dst (N := 3) rfl ?_);refine box_event ?hg (N := 3) ?hd (cs := #[.slice none 0 0]) (t := 31) ?hr ?_;(case hd => rfl);(case hg => rfl);(case hr => first|(go_simp;done)|(go_simp;rfl));intro gb272 hg w56 hbox hb;have n0_ := Aside0.mk (Kd.R_below (by (with_reducible repeat (first|apply Kd.R_alloc|apply Kd.R_drewN|apply Kd.R_drew));exact HO270.out) hb);have n1_ := Aside0.mk (IsS82.below (by repeat (first|(with_reducible first|exact HI0.out|apply IsS82.alloc|apply IsS82.drewN|apply IsS82.drew|apply IsS82.set_1|refine IsS82.far ?_ NB0_267.out _)|exact HI0.out)) hb);have n2_ := Aside0.mk (blk_below (g := gb267) (o := .cells #[.slice none 0 0] 31 (0,0)) (by (with_reducible repeat (first|refine blk_drewN ?_ _|refine blk_drew ?_|refine blk_alloc ?_ _));exact BK267.out) hb);have n3_ := Aside0.mk (KeepBut.trans (by repeat (first|(with_reducible first|exact HK.out|apply KeepBut.set_|apply keep_drewN|apply keep_drew|apply keep_alloc|refine keep_far ?_ GW267.out _)|exact HK.out)) (KeepBut.of_below hb g none) (.inl rfl));have n4_ := Aside0.mk (below_step (by repeat (first|(with_reducible first|exact HB.out|apply below_alloc|apply pw_below_drewN|apply below_drew1|refine below_set ?_ (IsS82.ge HI0.out)|refine below_set ?_ GE267.out)|exact HB.out)) hb);have n5_ := Aside0.mk (hbox);have n6_ := Aside0.mk ((by rw [hg];exact (keep_size (w := w) (g := g) (row := none) (by repeat (first|(with_reducible first|exact HK.out|apply KeepBut.set_|apply keep_drewN|apply keep_drew|apply keep_alloc|refine keep_far ?_ GW267.out _)|exact HK.out))) : w.heap.size ≤ gb272));have n7_ := Aside0.mk ((Nat.le_trans HW0.out (by rw [hg];exact (keep_size (w := w) (g := g) (row := none) (by repeat (first|(with_reducible first|exact HK.out|apply KeepBut.set_|apply keep_drewN|apply keep_drew|apply keep_alloc|refine keep_far ?_ GW267.out _)|exact HK.out))) : w.heap.size ≤ gb272) : w0.heap.size ≤ gb272));have n8_ := Aside0.mk ((by rw [hg];exact Nat.ne_of_lt (blk_lt (g := gb267) (o := .cells #[.slice none 0 0] 31 (0,0)) (by (with_reducible repeat (first|refine blk_drewN ?_ _|refine blk_drew ?_|refine blk_alloc ?_ _));exact BK267.out)) : gb267 ≠ gb272));have n9_ := Aside0.mk ((by rw [hg];exact Nat.ne_of_gt (blk_lt (g := gb267) (o := .cells #[.slice none 0 0] 31 (0,0)) (by (with_reducible repeat (first|refine blk_drewN ?_ _|refine blk_drew ?_|refine blk_alloc ?_ _));exact BK267.out)) : gb272 ≠ gb267));have n10_ := Aside0.mk ((by rw [hg];exact Nat.ne_of_lt (IsS82.lt (show IsS82 w0 _ g s0_0 t271 from by repeat (first|(with_reducible first|exact HI0.out|apply IsS82.alloc|apply IsS82.drewN|apply IsS82.drew|apply IsS82.set_1|refine IsS82.far ?_ NB0_267.out _)|exact HI0.out))) : g ≠ gb272));have n11_ := Aside0.mk ((by rw [hg];exact Nat.ne_of_gt (IsS82.lt (show IsS82 w0 _ g s0_0 t271 from by repeat (first|(with_reducible first|exact HI0.out|apply IsS82.alloc|apply IsS82.drewN|apply IsS82.drew|apply IsS82.set_1|refine IsS82.far ?_ NB0_267.out _)|exact HI0.out))) : gb272 ≠ g));clear HO270;clear HI0;clear BK267;clear HK;clear HB;have HO270 := n0_;have HI0 := n1_;have BK267 := n2_;have HK := n3_;have HB := n4_;have BK272 := n5_;have GW272 := n6_;have GE272 := n7_;have NB267_272 := n8_;have NB272_267 := n9_;have NB0_272 := n10_;have NB272_0 := n11_;clear n0_ n1_ n2_ n3_ n4_ n5_ n6_ n7_ n8_ n9_ n10_ n11_;clear hb hbox hg;obtain ⟨Ao57,co57,eo57⟩ := Kd.R_slice HO270.out;subst eo57;have hnb58 := NB272_267.out;have hnc58 := NB267_272.out;have hnb59 := NB272_0.out;have hnc59 := NB0_272.out;have hcz60_0 : w56.cell? ⟨gb272,0,none⟩ = some (.slice none 0 0) := (blk_cell BK272.out 0).trans rfl;have hfz60_0 := blk_frozen BK272.out 0)|((with_reducible refine gate_callee (f := 51) rfl ?_);refine goesL_ (some 11) rfl rfl Try.func51 (by kernel_rfl) rfl #[.pointer (some ⟨g,0,none⟩),.int .i64 (t268.length : Int)] rfl (by (try simp only [List.map_toArray,List.map_cons,List.map_nil]);first|done|rfl|(simp only [List.length_drop,List.length_take];rfl)) ?_;(with_reducible refine (spec_reader_pick.calls k g s0_0 t271 (t268.length : Int) t273 t274 w0 _ ?side1 ?side2 A3.out).mono ?_);(case side1 => repeat (first|(with_reducible first|exact HI0.out|apply IsS82.alloc|apply IsS82.drewN|apply IsS82.drew|apply IsS82.set_1|refine IsS82.far ?_ NB0_267.out _|refine IsS82.far ?_ NB0_272.out _)|exact HI0.out));(case side2 => repeat (first|(with_reducible first|exact HB.out|apply below_alloc|apply pw_below_drewN|apply below_drew1|refine below_set ?_ (IsS82.ge HI0.out)|refine below_set ?_ GE267.out|refine below_set ?_ GE272.out)|exact HB.out));rintro e w61 ⟨rfl,hi,hb,hk⟩;refine ⟨_,rfl,?_⟩;have n0_ := Aside0.mk (KeepBut.blk hk (g' := gb267) (o := .cells #[.slice none 0 0] 31 (0,0)) (by (with_reducible repeat (first|refine blk_drewN ?_ _|refine blk_drew ?_|refine blk_alloc ?_ _));refine blk_far ?_ NB267_272.out _;(with_reducible repeat (first|refine blk_drewN ?_ _|refine blk_drew ?_|refine blk_alloc ?_ _));exact BK267.out) NB267_0.out (by simp));have n1_ := Aside0.mk (Kd.R_mono (Kd.R_keep (IsS82.apart (show IsS82 w0 _ g s0_0 t271 from by repeat (first|(with_reducible first|exact HI0.out|apply IsS82.alloc|apply IsS82.drewN|apply IsS82.drew|apply IsS82.set_1|refine IsS82.far ?_ NB0_267.out _|refine IsS82.far ?_ NB0_272.out _)|exact HI0.out)) (by (with_reducible repeat (first|apply Kd.R_alloc|apply Kd.R_drewN|apply Kd.R_drew));exact (Kd.R_mono (Kd.R_far (p := ⟨gb272,0,none⟩) (Kd.R_types HO270.out BK272.out (by decide)) (fun _ hk => hk.2) (.slice Ao57 t268.length co57)) (fun _ h_ => h_.1))) (by decide)) hk (fun _ h => h.2)) (fun _ h => h.1));have n2_ := Aside0.mk (KeepBut.blk hk (g' := gb272) (o := .cells #[.slice Ao57 t268.length co57] 31 (0,0)) (by (with_reducible repeat (first|refine blk_drewN ?_ _|refine blk_drew ?_|refine blk_alloc ?_ _));refine blk_put (cs := #[.slice none 0 0]) ?_ 0 _ rfl;(with_reducible repeat (first|refine blk_drewN ?_ _|refine blk_drew ?_|refine blk_alloc ?_ _));exact BK272.out) NB272_0.out (by simp));have n3_ := Aside0.mk (KeepBut.trans (by repeat (first|(with_reducible first|exact HK.out|apply KeepBut.set_|apply keep_drewN|apply keep_drew|apply keep_alloc|refine keep_far ?_ GW267.out _|refine keep_far ?_ GW272.out _)|exact HK.out)) hk (.inl rfl));have n4_ := Aside0.mk (hb);have n5_ := Aside0.mk (hi);clear BK267;clear HO270;clear BK272;clear HK;clear HB;clear HI0;have BK267 := n0_;have HO270 := n1_;have BK272 := n2_;have HK := n3_;have HB := n4_;have HI0 := n5_;clear n0_ n1_ n2_ n3_ n4_ n5_;(try clear hb);(try clear hb2);(try clear hk);(try clear hi))|((with_reducible refine gate_callee (f := 51) rfl ?_);refine goesL_ (some 13) rfl rfl Try.func51 (by kernel_rfl) rfl #[.pointer (some ⟨g,0,none⟩),.int .i64 24] rfl (by (try simp only [List.map_toArray,List.map_cons,List.map_nil]);first|done|rfl|(simp only [List.length_drop,List.length_take];rfl)) ?_;(with_reducible refine (spec_reader_pick.calls k g s0_0 t274 24 t275 t276 w0 _ ?side1 ?side2 A4.out).mono ?_);(case side1 => repeat (first|(with_reducible first|exact HI0.out|apply IsS82.alloc|apply IsS82.drewN|apply IsS82.drew|apply IsS82.set_1|refine IsS82.far ?_ NB0_267.out _|refine IsS82.far ?_ NB0_272.out _)|exact HI0.out));(case side2 => repeat (first|(with_reducible first|exact HB.out|apply below_alloc|apply pw_below_drewN|apply below_drew1|refine below_set ?_ (IsS82.ge HI0.out)|refine below_set ?_ GE267.out|refine below_set ?_ GE272.out)|exact HB.out));rintro e w62 ⟨rfl,hi,hb,hk⟩;refine ⟨_,rfl,?_⟩;have n0_ := Aside0.mk (KeepBut.blk hk (g' := gb267) (o := .cells #[.slice none 0 0] 31 (0,0)) (by (with_reducible repeat (first|refine blk_drewN ?_ _|refine blk_drew ?_|refine blk_alloc ?_ _));exact BK267.out) NB267_0.out (by simp));have n1_ := Aside0.mk (Kd.R_mono (Kd.R_keep (IsS82.apart (show IsS82 w0 _ g s0_0 t274 from by repeat (first|(with_reducible first|exact HI0.out|apply IsS82.alloc|apply IsS82.drewN|apply IsS82.drew|apply IsS82.set_1|refine IsS82.far ?_ NB0_267.out _|refine IsS82.far ?_ NB0_272.out _)|exact HI0.out)) (by (with_reducible repeat (first|apply Kd.R_alloc|apply Kd.R_drewN|apply Kd.R_drew));exact HO270.out) (by decide)) hk (fun _ h => h.2)) (fun _ h => h.1));have n2_ := Aside0.mk (KeepBut.blk hk (g' := gb272) (o := .cells #[.slice Ao57 t268.length co57] 31 (0,0)) (by (with_reducible repeat (first|refine blk_drewN ?_ _|refine blk_drew ?_|refine blk_alloc ?_ _));exact BK272.out) NB272_0.out (by simp));have n3_ := Aside0.mk (KeepBut.trans (by repeat (first|(with_reducible first|exact HK.out|apply KeepBut.set_|apply keep_drewN|apply keep_drew|apply keep_alloc|refine keep_far ?_ GW267.out _|refine keep_far ?_ GW272.out _)|exact HK.out)) hk (.inl rfl));have n4_ := Aside0.mk (hb);have n5_ := Aside0.mk (hi);clear BK267;clear HO270;clear BK272;clear HK;clear HB;clear HI0;have BK267 := n0_;have HO270 := n1_;have BK272 := n2_;have HK := n3_;have HB := n4_;have HI0 := n5_;clear n0_ n1_ n2_ n3_ n4_ n5_;(try clear hb);(try clear hb2);(try clear hk);(try clear hi);have hnb63 := NB267_0.out;have hnc63 := NB0_267.out;have hcz64_0 : w62.cell? ⟨gb267,0,none⟩ = some (.slice none 0 0) := (blk_cell BK267.out 0).trans rfl;have hfz64_0 := blk_frozen BK267.out 0))
    refine bodyPost_ret (results_cell_row rfl _ _ gb267 31 #[.slice none 0 0] (0,0) _ rfl (by (with_reducible repeat (first|refine blk_drewN ?_ _|refine blk_drew ?_|refine blk_alloc ?_ _));refine blk_put (cs := #[.slice none 0 0]) ?_ 0 _ rfl;(with_reducible repeat (first|refine blk_drewN ?_ _|refine blk_drew ?_|refine blk_alloc ?_ _));exact BK267.out) Try.underlying31 rfl (by kernel_rfl)) rfl ?_
    exact ⟨_,by first|rfl|(simp [errW_none,errW_some] <;> rfl)|(simp [*,errW_none,errW_some] <;> rfl),by first|exact Kd.R_nil _ _ _ _ _|exact Kd.N_nil _ _ _ _ _|exact Kd.V_nil _ _ _ _ _|exact Kd.Q_nil _ _ _ _ _|exact Kd.S_nil _ _ _ _ _,by repeat (first|(with_reducible first|exact HI0.out|apply IsS82.alloc|apply IsS82.drewN|apply IsS82.drew|apply IsS82.set_1|refine IsS82.far ?_ NB0_267.out _|refine IsS82.far ?_ NB0_272.out _)|exact HI0.out),by repeat (first|(with_reducible first|exact HB.out|apply below_alloc|apply pw_below_drewN|apply below_drew1|refine below_set ?_ (IsS82.ge HI0.out)|refine below_set ?_ GE267.out|refine below_set ?_ GE272.out)|exact HB.out),by repeat (first|(with_reducible first|exact HK.out|apply KeepBut.set_|apply keep_drewN|apply keep_drew|apply keep_alloc|refine keep_far ?_ GW267.out _|refine keep_far ?_ GW272.out _)|exact HK.out)⟩
   ·rw [if_neg c53] at H
    have c53b0 : (t275 == 2) = false := beq_eq_false_iff_ne.mpr c53
    have c53b1 : (t275 != 2) = true := bne_iff_ne.mpr c53
    simp only [Option.some.injEq,Prod.mk.injEq] at H
    obtain ⟨rfl,rfl⟩ := H
    go_enter Try.func49,Try.ntmps49
    go_wp2_with (first|((with_reducible refine gate_dst (N := 2) rfl ?_);refine box_event ?hg (N := 2) ?hd (cs := #[.slice none 0 0]) (t := 31) ?hr ?_;(case hd => rfl);(case hg => rfl);(case hr => first|(go_simp;done)|(go_simp;rfl));intro gb267 hg w65 hbox hb;have n0_ := Aside0.mk (IsS82.below (by repeat (first|(with_reducible first|exact HI0.out|apply IsS82.alloc|apply IsS82.drewN|apply IsS82.drew|apply IsS82.set_1)|exact HI0.out)) hb);have n1_ := Aside0.mk (KeepBut.trans (by repeat (first|(with_reducible first|exact HK.out|apply KeepBut.set_|apply keep_drewN|apply keep_drew|apply keep_alloc)|exact HK.out)) (KeepBut.of_below hb g none) (.inl rfl));have n2_ := Aside0.mk (below_step (by repeat (first|(with_reducible first|exact HB.out|apply below_alloc|apply pw_below_drewN|apply below_drew1|refine below_set ?_ (IsS82.ge HI0.out))|exact HB.out)) hb);have n3_ := Aside0.mk (hbox);have n4_ := Aside0.mk ((by rw [hg];exact (keep_size (w := w) (g := g) (row := none) (by repeat (first|(with_reducible first|exact HK.out|apply KeepBut.set_|apply keep_drewN|apply keep_drew|apply keep_alloc)|exact HK.out))) : w.heap.size ≤ gb267));have n5_ := Aside0.mk ((Nat.le_trans HW0.out (by rw [hg];exact (keep_size (w := w) (g := g) (row := none) (by repeat (first|(with_reducible first|exact HK.out|apply KeepBut.set_|apply keep_drewN|apply keep_drew|apply keep_alloc)|exact HK.out))) : w.heap.size ≤ gb267) : w0.heap.size ≤ gb267));have n6_ := Aside0.mk ((by rw [hg];exact Nat.ne_of_lt (IsS82.lt (show IsS82 w0 _ g s0_0 s0_1 from by repeat (first|(with_reducible first|exact HI0.out|apply IsS82.alloc|apply IsS82.drewN|apply IsS82.drew|apply IsS82.set_1)|exact HI0.out))) : g ≠ gb267));have n7_ := Aside0.mk ((by rw [hg];exact Nat.ne_of_gt (IsS82.lt (show IsS82 w0 _ g s0_0 s0_1 from by repeat (first|(with_reducible first|exact HI0.out|apply IsS82.alloc|apply IsS82.drewN|apply IsS82.drew|apply IsS82.set_1)|exact HI0.out))) : gb267 ≠ g));clear HI0;clear HK;clear HB;have HI0 := n0_;have HK := n1_;have HB := n2_;have BK267 := n3_;have GW267 := n4_;have GE267 := n5_;have NB0_267 := n6_;have NB267_0 := n7_;clear n0_ n1_ n2_ n3_ n4_ n5_ n6_ n7_;clear hb hbox hg)|((with_reducible refine gate_callee (f := 61) rfl ?_);refine goesL_ (some 6) rfl rfl Try.func61 (by kernel_rfl) rfl #[.pointer (some ⟨g,0,none⟩)] rfl (by (try simp only [List.map_toArray,List.map_cons,List.map_nil]);first|done|rfl|(simp only [List.length_drop,List.length_take];rfl)) ?_;(with_reducible refine (spec_goodTree.calls k g s0_0 s0_1 t268 t271 w0 _ ?side1 ?side2 A2.out).mono ?_);(case side1 => repeat (first|(with_reducible first|exact HI0.out|apply IsS82.alloc|apply IsS82.drewN|apply IsS82.drew|apply IsS82.set_1|refine IsS82.far ?_ NB0_267.out _)|exact HI0.out));(case side2 => repeat (first|(with_reducible first|exact HB.out|apply below_alloc|apply pw_below_drewN|apply below_drew1|refine below_set ?_ (IsS82.ge HI0.out)|refine below_set ?_ GE267.out)|exact HB.out));rintro e w66 ⟨v269,rfl,ho0,hi,hb,hk⟩;refine ⟨_,rfl,?_⟩;have n0_ := Aside0.mk (KeepBut.blk hk (g' := gb267) (o := .cells #[.slice none 0 0] 31 (0,0)) (by (with_reducible repeat (first|refine blk_drewN ?_ _|refine blk_drew ?_|refine blk_alloc ?_ _));exact BK267.out) NB267_0.out (by simp));have n1_ := Aside0.mk (Kd.R_lower ho0 (keep_size (w := w) (g := g) (row := none) (by repeat (first|(with_reducible first|exact HK.out|apply KeepBut.set_|apply keep_drewN|apply keep_drew|apply keep_alloc|refine keep_far ?_ GW267.out _)|exact HK.out))));have n2_ := Aside0.mk (KeepBut.trans (by repeat (first|(with_reducible first|exact HK.out|apply KeepBut.set_|apply keep_drewN|apply keep_drew|apply keep_alloc|refine keep_far ?_ GW267.out _)|exact HK.out)) hk (.inl rfl));have n3_ := Aside0.mk (hb);have n4_ := Aside0.mk (hi);clear BK267;clear HK;clear HB;clear HI0;have BK267 := n0_;have HO270 := n1_;have HK := n2_;have HB := n3_;have HI0 := n4_;clear n0_ n1_ n2_ n3_ n4_;(try clear hb);(try clear hb2);(try clear hk);(try clear hi);(try clear ho0))|((with_reducible refine gate_dst (N := 3) rfl ?_);refine box_event ?hg (N := 3) ?hd (cs := #[.slice none 0 0]) (t := 31) ?hr ?_;(case hd => rfl);(case hg => rfl);(case hr => first|(go_simp;done)|(go_simp;rfl));intro gb272 hg w67 hbox hb;have n0_ := Aside0.mk (Kd.R_below (by (with_reducible repeat (first|apply Kd.R_alloc|apply Kd.R_drewN|apply Kd.R_drew));exact HO270.out) hb);have n1_ := Aside0.mk (IsS82.below (by repeat (first|(with_reducible first|exact HI0.out|apply IsS82.alloc|apply IsS82.drewN|apply IsS82.drew|apply IsS82.set_1|refine IsS82.far ?_ NB0_267.out _)|exact HI0.out)) hb);have n2_ := Aside0.mk (blk_below (g := gb267) (o := .cells #[.slice none 0 0] 31 (0,0)) (by (with_reducible repeat (first|refine blk_drewN ?_ _|refine blk_drew ?_|refine blk_alloc ?_ _));exact BK267.out) hb);have n3_ := Aside0.mk (KeepBut.trans (by repeat (first|(with_reducible first|exact HK.out|apply KeepBut.set_|apply keep_drewN|apply keep_drew|apply keep_alloc|refine keep_far ?_ GW267.out _)|exact HK.out)) (KeepBut.of_below hb g none) (.inl rfl));have n4_ := Aside0.mk (below_step (by repeat (first|(with_reducible first|exact HB.out|apply below_alloc|apply pw_below_drewN|apply below_drew1|refine below_set ?_ (IsS82.ge HI0.out)|refine below_set ?_ GE267.out)|exact HB.out)) hb);have n5_ := Aside0.mk (hbox);have n6_ := Aside0.mk ((by rw [hg];exact (keep_size (w := w) (g := g) (row := none) (by repeat (first|(with_reducible first|exact HK.out|apply KeepBut.set_|apply keep_drewN|apply keep_drew|apply keep_alloc|refine keep_far ?_ GW267.out _)|exact HK.out))) : w.heap.size ≤ gb272));have n7_ := Aside0.mk ((Nat.le_trans HW0.out (by rw [hg];exact (keep_size (w := w) (g := g) (row := none) (by repeat (first|(with_reducible first|exact HK.out|apply KeepBut.set_|apply keep_drewN|apply keep_drew|apply keep_alloc|refine keep_far ?_ GW267.out _)|exact HK.out))) : w.heap.size ≤ gb272) : w0.heap.size ≤ gb272));have n8_ := Aside0.mk ((by rw [hg];exact Nat.ne_of_lt (blk_lt (g := gb267) (o := .cells #[.slice none 0 0] 31 (0,0)) (by (with_reducible repeat (first|refine blk_drewN ?_ _|refine blk_drew ?_|refine blk_alloc ?_ _));exact BK267.out)) : gb267 ≠ gb272));have n9_ := Aside0.mk ((by rw [hg];exact Nat.ne_of_gt (blk_lt (g := gb267) (o := .cells #[.slice none 0 0] 31 (0,0)) (by (with_reducible repeat (first|refine blk_drewN ?_ _|refine blk_drew ?_|refine blk_alloc ?_ _));exact BK267.out)) : gb272 ≠ gb267));have n10_ := Aside0.mk ((by rw [hg];exact Nat.ne_of_lt (IsS82.lt (show IsS82 w0 _ g s0_0 t271 from by repeat (first|(with_reducible first|exact HI0.out|apply IsS82.alloc|apply IsS82.drewN|apply IsS82.drew|apply IsS82.set_1|refine IsS82.far ?_ NB0_267.out _)|exact HI0.out))) : g ≠ gb272));have n11_ := Aside0.mk ((by rw [hg];exact Nat.ne_of_gt (IsS82.lt (show IsS82 w0 _ g s0_0 t271 from by repeat (first|(with_reducible first|exact HI0.out|apply IsS82.alloc|apply IsS82.drewN|apply IsS82.drew|apply IsS82.set_1|refine IsS82.far ?_ NB0_267.out _)|exact HI0.out))) : gb272 ≠ g));clear HO270;clear HI0;clear BK267;clear HK;clear HB;have HO270 := n0_;have HI0 := n1_;have BK267 := n2_;have HK := n3_;have HB := n4_;have BK272 := n5_;have GW272 := n6_;have GE272 := n7_;have NB267_272 := n8_;have NB272_267 := n9_;have NB0_272 := n10_;have NB272_0 := n11_;clear n0_ n1_ n2_ n3_ n4_ n5_ n6_ n7_ n8_ n9_ n10_ n11_;clear hb hbox hg;obtain ⟨Ao68,co68,eo68⟩ := Kd.R_slice HO270.out;subst eo68;have hnb69 := NB272_267.out;have hnc69 := NB267_272.out;have hnb70 := NB272_0.out;have hnc70 := NB0_272.out;have hcz71_0 : w67.cell? ⟨gb272,0,none⟩ = some (.slice none 0 0) := (blk_cell BK272.out 0).trans rfl;have hfz71_0 := blk_frozen BK272.out 0)|((with_reducible refine gate_callee (f := 51) rfl ?_);refine goesL_ (some 11) rfl rfl Try.func51 (by kernel_rfl) rfl #[.pointer (some ⟨g,0,none⟩),.int .i64 (t268.length : Int)] rfl (by (try simp only [List.map_toArray,List.map_cons,List.map_nil]);first|done|rfl|(simp only [List.length_drop,List.length_take];rfl)) ?_;(with_reducible refine (spec_reader_pick.calls k g s0_0 t271 (t268.length : Int) t273 t274 w0 _ ?side1 ?side2 A3.out).mono ?_);(case side1 => repeat (first|(with_reducible first|exact HI0.out|apply IsS82.alloc|apply IsS82.drewN|apply IsS82.drew|apply IsS82.set_1|refine IsS82.far ?_ NB0_267.out _|refine IsS82.far ?_ NB0_272.out _)|exact HI0.out));(case side2 => repeat (first|(with_reducible first|exact HB.out|apply below_alloc|apply pw_below_drewN|apply below_drew1|refine below_set ?_ (IsS82.ge HI0.out)|refine below_set ?_ GE267.out|refine below_set ?_ GE272.out)|exact HB.out));rintro e w72 ⟨rfl,hi,hb,hk⟩;refine ⟨_,rfl,?_⟩;have n0_ := Aside0.mk (KeepBut.blk hk (g' := gb267) (o := .cells #[.slice none 0 0] 31 (0,0)) (by (with_reducible repeat (first|refine blk_drewN ?_ _|refine blk_drew ?_|refine blk_alloc ?_ _));refine blk_far ?_ NB267_272.out _;(with_reducible repeat (first|refine blk_drewN ?_ _|refine blk_drew ?_|refine blk_alloc ?_ _));exact BK267.out) NB267_0.out (by simp));have n1_ := Aside0.mk (Kd.R_mono (Kd.R_keep (IsS82.apart (show IsS82 w0 _ g s0_0 t271 from by repeat (first|(with_reducible first|exact HI0.out|apply IsS82.alloc|apply IsS82.drewN|apply IsS82.drew|apply IsS82.set_1|refine IsS82.far ?_ NB0_267.out _|refine IsS82.far ?_ NB0_272.out _)|exact HI0.out)) (by (with_reducible repeat (first|apply Kd.R_alloc|apply Kd.R_drewN|apply Kd.R_drew));exact (Kd.R_mono (Kd.R_far (p := ⟨gb272,0,none⟩) (Kd.R_types HO270.out BK272.out (by decide)) (fun _ hk => hk.2) (.slice Ao68 t268.length co68)) (fun _ h_ => h_.1))) (by decide)) hk (fun _ h => h.2)) (fun _ h => h.1));have n2_ := Aside0.mk (KeepBut.blk hk (g' := gb272) (o := .cells #[.slice Ao68 t268.length co68] 31 (0,0)) (by (with_reducible repeat (first|refine blk_drewN ?_ _|refine blk_drew ?_|refine blk_alloc ?_ _));refine blk_put (cs := #[.slice none 0 0]) ?_ 0 _ rfl;(with_reducible repeat (first|refine blk_drewN ?_ _|refine blk_drew ?_|refine blk_alloc ?_ _));exact BK272.out) NB272_0.out (by simp));have n3_ := Aside0.mk (KeepBut.trans (by repeat (first|(with_reducible first|exact HK.out|apply KeepBut.set_|apply keep_drewN|apply keep_drew|apply keep_alloc|refine keep_far ?_ GW267.out _|refine keep_far ?_ GW272.out _)|exact HK.out)) hk (.inl rfl));have n4_ := Aside0.mk (hb);have n5_ := Aside0.mk (hi);clear BK267;clear HO270;clear BK272;clear HK;clear HB;clear HI0;have BK267 := n0_;have HO270 := n1_;have BK272 := n2_;have HK := n3_;have HB := n4_;have HI0 := n5_;clear n0_ n1_ n2_ n3_ n4_ n5_;(try clear hb);(try clear hb2);(try clear hk);(try clear hi))|((with_reducible refine gate_callee (f := 51) rfl ?_);refine goesL_ (some 13) rfl rfl Try.func51 (by kernel_rfl) rfl #[.pointer (some ⟨g,0,none⟩),.int .i64 24] rfl (by (try simp only [List.map_toArray,List.map_cons,List.map_nil]);first|done|rfl|(simp only [List.length_drop,List.length_take];rfl)) ?_;(with_reducible refine (spec_reader_pick.calls k g s0_0 t274 24 t275 t276 w0 _ ?side1 ?side2 A4.out).mono ?_);(case side1 => repeat (first|(with_reducible first|exact HI0.out|apply IsS82.alloc|apply IsS82.drewN|apply IsS82.drew|apply IsS82.set_1|refine IsS82.far ?_ NB0_267.out _|refine IsS82.far ?_ NB0_272.out _)|exact HI0.out));(case side2 => repeat (first|(with_reducible first|exact HB.out|apply below_alloc|apply pw_below_drewN|apply below_drew1|refine below_set ?_ (IsS82.ge HI0.out)|refine below_set ?_ GE267.out|refine below_set ?_ GE272.out)|exact HB.out));rintro e w73 ⟨rfl,hi,hb,hk⟩;refine ⟨_,rfl,?_⟩;have n0_ := Aside0.mk (KeepBut.blk hk (g' := gb267) (o := .cells #[.slice none 0 0] 31 (0,0)) (by (with_reducible repeat (first|refine blk_drewN ?_ _|refine blk_drew ?_|refine blk_alloc ?_ _));exact BK267.out) NB267_0.out (by simp));have n1_ := Aside0.mk (Kd.R_mono (Kd.R_keep (IsS82.apart (show IsS82 w0 _ g s0_0 t274 from by repeat (first|(with_reducible first|exact HI0.out|apply IsS82.alloc|apply IsS82.drewN|apply IsS82.drew|apply IsS82.set_1|refine IsS82.far ?_ NB0_267.out _|refine IsS82.far ?_ NB0_272.out _)|exact HI0.out)) (by (with_reducible repeat (first|apply Kd.R_alloc|apply Kd.R_drewN|apply Kd.R_drew));exact HO270.out) (by decide)) hk (fun _ h => h.2)) (fun _ h => h.1));have n2_ := Aside0.mk (KeepBut.blk hk (g' := gb272) (o := .cells #[.slice Ao68 t268.length co68] 31 (0,0)) (by (with_reducible repeat (first|refine blk_drewN ?_ _|refine blk_drew ?_|refine blk_alloc ?_ _));exact BK272.out) NB272_0.out (by simp));have n3_ := Aside0.mk (KeepBut.trans (by repeat (first|(with_reducible first|exact HK.out|apply KeepBut.set_|apply keep_drewN|apply keep_drew|apply keep_alloc|refine keep_far ?_ GW267.out _|refine keep_far ?_ GW272.out _)|exact HK.out)) hk (.inl rfl));have n4_ := Aside0.mk (hb);have n5_ := Aside0.mk (hi);clear BK267;clear HO270;clear BK272;clear HK;clear HB;clear HI0;have BK267 := n0_;have HO270 := n1_;have BK272 := n2_;have HK := n3_;have HB := n4_;have HI0 := n5_;clear n0_ n1_ n2_ n3_ n4_ n5_;(try clear hb);(try clear hb2);(try clear hk);(try clear hi);have hcz74_0 : w73.cell? ⟨gb272,0,none⟩ = some (.slice Ao68 t268.length co68) := (blk_cell BK272.out 0).trans rfl;have hfz74_0 := blk_frozen BK272.out 0;have hnb75 := NB267_0.out;have hnc75 := NB0_267.out;have hcz76_0 : w73.cell? ⟨gb267,0,none⟩ = some (.slice none 0 0) := (blk_cell BK267.out 0).trans rfl;have hfz76_0 := blk_frozen BK267.out 0))
    refine bodyPost_ret (results_cell_row rfl _ _ gb267 31 #[.slice Ao68 t268.length co68] (0,0) _ rfl (by (with_reducible repeat (first|refine blk_drewN ?_ _|refine blk_drew ?_|refine blk_alloc ?_ _));refine blk_put (cs := #[.slice none 0 0]) ?_ 0 _ rfl;(with_reducible repeat (first|refine blk_drewN ?_ _|refine blk_drew ?_|refine blk_alloc ?_ _));exact BK267.out) Try.underlying31 rfl (by kernel_rfl)) rfl ?_
    exact ⟨_,by first|rfl|(simp [errW_none,errW_some] <;> rfl)|(simp [*,errW_none,errW_some] <;> rfl),by (with_reducible repeat (first|apply Kd.R_alloc|apply Kd.R_drewN|apply Kd.R_drew));exact Kd.R_mono (Kd.R_far (p := ⟨gb267,0,none⟩) (Kd.R_types HO270.out BK267.out (by decide)) (fun _ hk => hk.2) (.slice Ao68 t268.length co68)) (fun _ hk => trivial),by repeat (first|(with_reducible first|exact HI0.out|apply IsS82.alloc|apply IsS82.drewN|apply IsS82.drew|apply IsS82.set_1|refine IsS82.far ?_ NB0_267.out _|refine IsS82.far ?_ NB0_272.out _)|exact HI0.out),by repeat (first|(with_reducible first|exact HB.out|apply below_alloc|apply pw_below_drewN|apply below_drew1|refine below_set ?_ (IsS82.ge HI0.out)|refine below_set ?_ GE267.out|refine below_set ?_ GE272.out)|exact HB.out),by repeat (first|(with_reducible first|exact HK.out|apply KeepBut.set_|apply keep_drewN|apply keep_drew|apply keep_alloc|refine keep_far ?_ GW267.out _|refine keep_far ?_ GW272.out _)|exact HK.out)⟩
mutual
def spec_goodGroup.j0 : Nat → Int → Bool → List Int → Int → List (S70) → Option ((List (S46)) × Int)
 | 0, _, _, _, _, _ => none
 | k + 1, x2, x24, x1000, x1001, x290000 => if x24 = true then ((spec_reader_pick.f k x1000 x1001 (x290000.length : Int)).bind fun bt296 => ((spec_reader_one.f k x1000 bt296.2 (([1, 2, 3, 0, 99] : List Int))).bind fun bt301 => (some ((([(⟨x2, false, bt296.1, bt301.1⟩ : S46)] : List (S46))), bt301.2)))) else ((spec_reader_one.f k x1000 x1001 (([1, 2, 0, 7] : List Int))).bind fun bt309 => ((spec_reader_one.f k x1000 bt309.2 (([2, 3, 1] : List Int))).bind fun bt317 => (spec_goodGroup.l0 k x2 (([(⟨x2, true, 0, bt309.1⟩ : S46)] : List (S46))) bt317.1 x1000 bt317.2 x290000)))
def spec_goodGroup.l0 : Nat → Int → List (S46) → Int → List Int → Int → List (S70) → Option ((List (S46)) × Int)
 | 0, _, _, _, _, _, _ => none
 | k + 1, x2, x7, x8, x1000, x1001, x290000 => if x8 > 0 then ((spec_goodGroup.f k x1000 x1001 x290000 (wrap64 (x2 + 1))).bind fun bt319 => (if x7.length + bt319.1.length < 4398046511104 then (spec_goodGroup.l0 k x2 (x7 ++ bt319.1) (wrap64 (x8 - 1)) x1000 bt319.2 x290000) else (none))) else (some (x7, x1001))
def spec_goodGroup.f : Nat → List Int → Int → List (S70) → Int → Option ((List (S46)) × Int)
 | 0, _, _, _, _ => none
 | k + 1, s0_0, s0_1, l1_0, a2 => if a2 ≥ 3 then (spec_goodGroup.j0 k a2 true s0_0 s0_1 l1_0) else (if a2 > 0 then ((spec_reader_pick.f k s0_0 s0_1 5).bind fun bt290 => (if bt290.1 > 1 then (spec_goodGroup.j0 k a2 true s0_0 bt290.2 l1_0) else ((spec_reader_pick.f k s0_0 bt290.2 8).bind fun bt292 => (spec_goodGroup.j0 k a2 (bt292.1 == 0) s0_0 bt292.2 l1_0)))) else ((spec_reader_pick.f k s0_0 s0_1 8).bind fun bt294 => (spec_goodGroup.j0 k a2 (bt294.1 == 0) s0_0 bt294.2 l1_0)))
end
set_option maxHeartbeats 8000000 in
set_option maxRecDepth 100000 in
theorem spec_goodGroup.calls (k : Nat) : ∀ (g : Nat) (s0_0 : List Int) (s0_1 : Int) (A1_0 : Option Addr) (c1_0 : Nat) (l1_0 : List (S70)) (a2 : Int) (r1 : List (S46)) (r2 : Int) (w0 w : World) (hI : IsS82 w0 w g s0_0 s0_1) (hB : Below w0.heap.size w0 w) (hr1_0 : ∀ W_,KeepBut w W_ g none → Kd.C k70 W_ A1_0 l1_0.length l1_0) (hc1_0 : l1_0.length ≤ c1_0) (h : spec_goodGroup.f k s0_0 s0_1 l1_0 a2 = some (r1,r2)),
  Calls Try.prog 50 #[.pointer (some ⟨g,0,none⟩),.agg #[.slice A1_0 l1_0.length c1_0],.int .i64 a2] w fun e w' => ∃ v0_ : Value,e = .returned (v0_) ∧ Kd.R k46 46 w' w.heap.size (fun _ => True) v0_ r1 ∧ IsS82 w0 w' g s0_0 r2 ∧ Below w0.heap.size w0 w' ∧ KeepBut w w' g none := by
 induction k using Nat.strongRecOn with
 | _ k ih =>
 intro g s0_0 s0_1 A1_0 c1_0 l1_0 a2 r1 r2 w0 w hI hB hr1_0 hc1_0 h
 cases k with
 | zero => exact absurd h (by simp [spec_goodGroup.f])
 | succ k =>
 simp only [spec_goodGroup.f] at h
 have hu31 := Try.underlying31
 have hu46 := Try.underlying46
 have HR1_0 := Aside0.mk hr1_0
 have HC1_0 := Aside0.mk hc1_0
 clear hr1_0 hc1_0
 have HI0 := Aside0.mk hI
 have HK := Aside0.mk (KeepBut.refl w g none)
 have HL := Aside0.mk hB.size
 clear hI
 have HW0 := Aside0.mk hB.size
 have HB := Aside0.mk hB
 clear hB
 have H : (if a2 ≥ 3 then (spec_goodGroup.j0 k a2 true s0_0 s0_1 l1_0) else (if a2 > 0 then ((spec_reader_pick.f k s0_0 s0_1 5).bind fun bt290 => (if bt290.1 > 1 then (spec_goodGroup.j0 k a2 true s0_0 bt290.2 l1_0) else ((spec_reader_pick.f k s0_0 bt290.2 8).bind fun bt292 => (spec_goodGroup.j0 k a2 (bt292.1 == 0) s0_0 bt292.2 l1_0)))) else ((spec_reader_pick.f k s0_0 s0_1 8).bind fun bt294 => (spec_goodGroup.j0 k a2 (bt294.1 == 0) s0_0 bt294.2 l1_0)))) = some (r1,r2) := h
 clear h
 have HC4 := Aside0.mk H
 clear H
 go_enter Try.func50,Try.ntmps50
 go_upto_region 1 with (first|((with_reducible refine gate_dst (N := 4) rfl ?_);refine box_event ?hg (N := 4) ?hd (cs := #[.slice A1_0 l1_0.length c1_0]) (t := 31) ?hr ?_;(case hd => rfl);(case hg => rfl);(case hr => first|(go_simp;done)|(go_simp;rfl));intro gb289 hg w5 hbox hb;have n0_ := Aside0.mk (IsS82.below (by repeat (first|(with_reducible first|exact HI0.out|apply IsS82.alloc|apply IsS82.drewN|apply IsS82.drew|apply IsS82.set_1)|exact HI0.out)) hb);have n1_ := Aside0.mk (KeepBut.trans (by repeat (first|(with_reducible first|exact HK.out|apply KeepBut.set_|apply keep_drewN|apply keep_drew|apply keep_alloc)|exact HK.out)) (KeepBut.of_below hb g none) (.inl rfl));have n2_ := Aside0.mk (below_step (by repeat (first|(with_reducible first|exact HB.out|apply below_alloc|apply pw_below_drewN|apply below_drew1|refine below_set ?_ (IsS82.ge HI0.out))|exact HB.out)) hb);have n3_ := Aside0.mk (hbox);have n4_ := Aside0.mk ((by rw [hg];exact (keep_size (w := w) (g := g) (row := none) (by repeat (first|(with_reducible first|exact HK.out|apply KeepBut.set_|apply keep_drewN|apply keep_drew|apply keep_alloc)|exact HK.out))) : w.heap.size ≤ gb289));have n5_ := Aside0.mk ((Nat.le_trans HW0.out (by rw [hg];exact (keep_size (w := w) (g := g) (row := none) (by repeat (first|(with_reducible first|exact HK.out|apply KeepBut.set_|apply keep_drewN|apply keep_drew|apply keep_alloc)|exact HK.out))) : w.heap.size ≤ gb289) : w0.heap.size ≤ gb289));have n6_ := Aside0.mk ((by rw [hg];exact Nat.ne_of_lt (IsS82.lt (show IsS82 w0 _ g s0_0 s0_1 from by repeat (first|(with_reducible first|exact HI0.out|apply IsS82.alloc|apply IsS82.drewN|apply IsS82.drew|apply IsS82.set_1)|exact HI0.out))) : g ≠ gb289));have n7_ := Aside0.mk ((by rw [hg];exact Nat.ne_of_gt (IsS82.lt (show IsS82 w0 _ g s0_0 s0_1 from by repeat (first|(with_reducible first|exact HI0.out|apply IsS82.alloc|apply IsS82.drewN|apply IsS82.drew|apply IsS82.set_1)|exact HI0.out))) : gb289 ≠ g));clear HI0;clear HK;clear HB;have HI0 := n0_;have HK := n1_;have HB := n2_;have BK289 := n3_;have GW289 := n4_;have GE289 := n5_;have NB0_289 := n6_;have NB289_0 := n7_;clear n0_ n1_ n2_ n3_ n4_ n5_ n6_ n7_;clear hb hbox hg))
 (try simp only [Act.put,List.setIfInBounds_toArray,List.set_cons_zero,List.set_cons_succ])
 go_cut [24] (fun v24 wc => ∃ (kq : Nat) (x24_3 : Bool) (x1001_3 : Int),v24 = .bool x24_3 ∧ Aside0 (spec_goodGroup.j0 kq a2 x24_3 s0_0 x1001_3 l1_0 = some (r1,r2)) ∧ Aside0 (kq ≤ k) ∧ Aside0 (wc.heap[gb289]? = some (.cells #[(.slice A1_0 l1_0.length c1_0)] 31 (0,0))) ∧ Aside0 (IsS82 w0 wc g s0_0 x1001_3) ∧ Aside0 (KeepBut w wc g none) ∧ Aside0 (Below w0.heap.size w0 wc))
 case first =>
  have H := HC4.out
  clear HC4
  by_cases c6 : a2 ≥ 3
  ·rw [if_pos c6] at H
   have c6b0 : decide (3 ≤ a2) = true := decide_eq_true c6
   clear c6
   (first|rw [c6b0]|(simp only [i64_w,i32_w];rw [c6b0])|skip)
   have H' := Aside0.mk H
   clear H
   go_wp2
   go_meet
   case rel => exact ⟨_,(true),(s0_1),(by first|rfl|(simp;done)|(simp [*];done)),H',⟨by first|omega|exact Nat.le_refl _⟩,⟨by (with_reducible repeat (first|refine blk_drewN ?_ _|refine blk_drew ?_|refine blk_alloc ?_ _));exact BK289.out⟩,⟨by repeat (first|(with_reducible first|exact HI0.out|apply IsS82.alloc|apply IsS82.drewN|apply IsS82.drew|apply IsS82.set_1|refine IsS82.far ?_ NB0_289.out _)|exact HI0.out)⟩,⟨by repeat (first|(with_reducible first|exact HK.out|apply KeepBut.set_|apply keep_drewN|apply keep_drew|apply keep_alloc|refine keep_far ?_ GW289.out _)|exact HK.out)⟩,⟨by repeat (first|(with_reducible first|exact HB.out|apply below_alloc|apply pw_below_drewN|apply below_drew1|refine below_set ?_ (IsS82.ge HI0.out)|refine below_set ?_ GE289.out)|exact HB.out)⟩⟩
  ·rw [if_neg c6] at H
   have c6b0 : decide (3 ≤ a2) = false := decide_eq_false c6
   clear c6
   (first|rw [c6b0]|(simp only [i64_w,i32_w];rw [c6b0])|skip)
   by_cases c7 : a2 > 0
   ·rw [if_pos c7] at H
    have c7b0 : decide (0 < a2) = true := decide_eq_true c7
    clear c7
    replace H := Option.bind_eq_some_iff.mp H
    obtain ⟨⟨t290,t291⟩,A80,H⟩ := H
    replace H : (if t290 > 1 then (spec_goodGroup.j0 k a2 true s0_0 t291 l1_0) else ((spec_reader_pick.f k s0_0 t291 8).bind fun bt292 => (spec_goodGroup.j0 k a2 (bt292.1 == 0) s0_0 bt292.2 l1_0))) = some (r1,r2) := H
    have A8 := Aside0.mk A80
    clear A80
    by_cases c9 : t290 > 1
    ·rw [if_pos c9] at H
     have c9b0 : decide (1 < t290) = true := decide_eq_true c9
     clear c9
     have H' := Aside0.mk H
     clear H
     go_wp2_with (first|(go_at_call 51;(with_reducible refine (spec_reader_pick.calls k g s0_0 s0_1 5 t290 t291 w0 _ ?side1 ?side2 A8.out).mono ?_);(case side1 => repeat (first|(with_reducible first|exact HI0.out|apply IsS82.alloc|apply IsS82.drewN|apply IsS82.drew|apply IsS82.set_1|refine IsS82.far ?_ NB0_289.out _)|exact HI0.out));(case side2 => repeat (first|(with_reducible first|exact HB.out|apply below_alloc|apply pw_below_drewN|apply below_drew1|refine below_set ?_ (IsS82.ge HI0.out)|refine below_set ?_ GE289.out)|exact HB.out));rintro e w10 ⟨rfl,hi,hb,hk⟩;have n0_ := Aside0.mk (KeepBut.blk hk (g' := gb289) (o := .cells #[.slice A1_0 l1_0.length c1_0] 31 (0,0)) (by (with_reducible repeat (first|refine blk_drewN ?_ _|refine blk_drew ?_|refine blk_alloc ?_ _));exact BK289.out) NB289_0.out (by simp));have n1_ := Aside0.mk (KeepBut.trans (by repeat (first|(with_reducible first|exact HK.out|apply KeepBut.set_|apply keep_drewN|apply keep_drew|apply keep_alloc|refine keep_far ?_ GW289.out _)|exact HK.out)) hk (.inl rfl));have n2_ := Aside0.mk (hb);have n3_ := Aside0.mk (hi);clear BK289;clear HK;clear HB;clear HI0;have BK289 := n0_;have HK := n1_;have HB := n2_;have HI0 := n3_;clear n0_ n1_ n2_ n3_;(try clear hb);(try clear hb2);(try clear hk);(try clear hi)))
     go_meet
     case rel => exact ⟨_,(true),(t291),(by first|rfl|(simp;done)|(simp [*];done)),H',⟨by first|omega|exact Nat.le_refl _⟩,⟨by (with_reducible repeat (first|refine blk_drewN ?_ _|refine blk_drew ?_|refine blk_alloc ?_ _));exact BK289.out⟩,⟨by repeat (first|(with_reducible first|exact HI0.out|apply IsS82.alloc|apply IsS82.drewN|apply IsS82.drew|apply IsS82.set_1|refine IsS82.far ?_ NB0_289.out _)|exact HI0.out)⟩,⟨by repeat (first|(with_reducible first|exact HK.out|apply KeepBut.set_|apply keep_drewN|apply keep_drew|apply keep_alloc|refine keep_far ?_ GW289.out _)|exact HK.out)⟩,⟨by repeat (first|(with_reducible first|exact HB.out|apply below_alloc|apply pw_below_drewN|apply below_drew1|refine below_set ?_ (IsS82.ge HI0.out)|refine below_set ?_ GE289.out)|exact HB.out)⟩⟩
    ·rw [if_neg c9] at H
     have c9b0 : decide (1 < t290) = false := decide_eq_false c9
     clear c9
     replace H := Option.bind_eq_some_iff.mp H
     obtain ⟨⟨t292,t293⟩,A110,H⟩ := H
     replace H : (spec_goodGroup.j0 k a2 (t292 == 0) s0_0 t293 l1_0) = some (r1,r2) := H
     have A11 := Aside0.mk A110
     clear A110
     have H' := Aside0.mk H
     clear H
     go_wp2_with (first|(go_at_call 51;(with_reducible refine (spec_reader_pick.calls k g s0_0 s0_1 5 t290 t291 w0 _ ?side1 ?side2 A8.out).mono ?_);(case side1 => repeat (first|(with_reducible first|exact HI0.out|apply IsS82.alloc|apply IsS82.drewN|apply IsS82.drew|apply IsS82.set_1|refine IsS82.far ?_ NB0_289.out _)|exact HI0.out));(case side2 => repeat (first|(with_reducible first|exact HB.out|apply below_alloc|apply pw_below_drewN|apply below_drew1|refine below_set ?_ (IsS82.ge HI0.out)|refine below_set ?_ GE289.out)|exact HB.out));rintro e w12 ⟨rfl,hi,hb,hk⟩;have n0_ := Aside0.mk (KeepBut.blk hk (g' := gb289) (o := .cells #[.slice A1_0 l1_0.length c1_0] 31 (0,0)) (by (with_reducible repeat (first|refine blk_drewN ?_ _|refine blk_drew ?_|refine blk_alloc ?_ _));exact BK289.out) NB289_0.out (by simp));have n1_ := Aside0.mk (KeepBut.trans (by repeat (first|(with_reducible first|exact HK.out|apply KeepBut.set_|apply keep_drewN|apply keep_drew|apply keep_alloc|refine keep_far ?_ GW289.out _)|exact HK.out)) hk (.inl rfl));have n2_ := Aside0.mk (hb);have n3_ := Aside0.mk (hi);clear BK289;clear HK;clear HB;clear HI0;have BK289 := n0_;have HK := n1_;have HB := n2_;have HI0 := n3_;clear n0_ n1_ n2_ n3_;(try clear hb);(try clear hb2);(try clear hk);(try clear hi))|(go_at_call 51;(with_reducible refine (spec_reader_pick.calls k g s0_0 t291 8 t292 t293 w0 _ ?side1 ?side2 A11.out).mono ?_);(case side1 => repeat (first|(with_reducible first|exact HI0.out|apply IsS82.alloc|apply IsS82.drewN|apply IsS82.drew|apply IsS82.set_1|refine IsS82.far ?_ NB0_289.out _)|exact HI0.out));(case side2 => repeat (first|(with_reducible first|exact HB.out|apply below_alloc|apply pw_below_drewN|apply below_drew1|refine below_set ?_ (IsS82.ge HI0.out)|refine below_set ?_ GE289.out)|exact HB.out));rintro e w13 ⟨rfl,hi,hb,hk⟩;have n0_ := Aside0.mk (KeepBut.blk hk (g' := gb289) (o := .cells #[.slice A1_0 l1_0.length c1_0] 31 (0,0)) (by (with_reducible repeat (first|refine blk_drewN ?_ _|refine blk_drew ?_|refine blk_alloc ?_ _));exact BK289.out) NB289_0.out (by simp));have n1_ := Aside0.mk (KeepBut.trans (by repeat (first|(with_reducible first|exact HK.out|apply KeepBut.set_|apply keep_drewN|apply keep_drew|apply keep_alloc|refine keep_far ?_ GW289.out _)|exact HK.out)) hk (.inl rfl));have n2_ := Aside0.mk (hb);have n3_ := Aside0.mk (hi);clear BK289;clear HK;clear HB;clear HI0;have BK289 := n0_;have HK := n1_;have HB := n2_;have HI0 := n3_;clear n0_ n1_ n2_ n3_;(try clear hb);(try clear hb2);(try clear hk);(try clear hi)))
     go_meet
     case rel => exact ⟨_,((t292 == 0)),(t293),(by first|rfl|(simp;done)|(simp [*];done)),H',⟨by first|omega|exact Nat.le_refl _⟩,⟨by (with_reducible repeat (first|refine blk_drewN ?_ _|refine blk_drew ?_|refine blk_alloc ?_ _));exact BK289.out⟩,⟨by repeat (first|(with_reducible first|exact HI0.out|apply IsS82.alloc|apply IsS82.drewN|apply IsS82.drew|apply IsS82.set_1|refine IsS82.far ?_ NB0_289.out _)|exact HI0.out)⟩,⟨by repeat (first|(with_reducible first|exact HK.out|apply KeepBut.set_|apply keep_drewN|apply keep_drew|apply keep_alloc|refine keep_far ?_ GW289.out _)|exact HK.out)⟩,⟨by repeat (first|(with_reducible first|exact HB.out|apply below_alloc|apply pw_below_drewN|apply below_drew1|refine below_set ?_ (IsS82.ge HI0.out)|refine below_set ?_ GE289.out)|exact HB.out)⟩⟩
   ·rw [if_neg c7] at H
    have c7b0 : decide (0 < a2) = false := decide_eq_false c7
    clear c7
    replace H := Option.bind_eq_some_iff.mp H
    obtain ⟨⟨t294,t295⟩,A140,H⟩ := H
    replace H : (spec_goodGroup.j0 k a2 (t294 == 0) s0_0 t295 l1_0) = some (r1,r2) := H
    have A14 := Aside0.mk A140
    clear A140
    have H' := Aside0.mk H
    clear H
    go_wp2_with (first|(go_at_call 51;(with_reducible refine (spec_reader_pick.calls k g s0_0 s0_1 8 t294 t295 w0 _ ?side1 ?side2 A14.out).mono ?_);(case side1 => repeat (first|(with_reducible first|exact HI0.out|apply IsS82.alloc|apply IsS82.drewN|apply IsS82.drew|apply IsS82.set_1|refine IsS82.far ?_ NB0_289.out _)|exact HI0.out));(case side2 => repeat (first|(with_reducible first|exact HB.out|apply below_alloc|apply pw_below_drewN|apply below_drew1|refine below_set ?_ (IsS82.ge HI0.out)|refine below_set ?_ GE289.out)|exact HB.out));rintro e w15 ⟨rfl,hi,hb,hk⟩;have n0_ := Aside0.mk (KeepBut.blk hk (g' := gb289) (o := .cells #[.slice A1_0 l1_0.length c1_0] 31 (0,0)) (by (with_reducible repeat (first|refine blk_drewN ?_ _|refine blk_drew ?_|refine blk_alloc ?_ _));exact BK289.out) NB289_0.out (by simp));have n1_ := Aside0.mk (KeepBut.trans (by repeat (first|(with_reducible first|exact HK.out|apply KeepBut.set_|apply keep_drewN|apply keep_drew|apply keep_alloc|refine keep_far ?_ GW289.out _)|exact HK.out)) hk (.inl rfl));have n2_ := Aside0.mk (hb);have n3_ := Aside0.mk (hi);clear BK289;clear HK;clear HB;clear HI0;have BK289 := n0_;have HK := n1_;have HB := n2_;have HI0 := n3_;clear n0_ n1_ n2_ n3_;(try clear hb);(try clear hb2);(try clear hk);(try clear hi)))
    go_meet
    case rel => exact ⟨_,((t294 == 0)),(t295),(by first|rfl|(simp;done)|(simp [*];done)),H',⟨by first|omega|exact Nat.le_refl _⟩,⟨by (with_reducible repeat (first|refine blk_drewN ?_ _|refine blk_drew ?_|refine blk_alloc ?_ _));exact BK289.out⟩,⟨by repeat (first|(with_reducible first|exact HI0.out|apply IsS82.alloc|apply IsS82.drewN|apply IsS82.drew|apply IsS82.set_1|refine IsS82.far ?_ NB0_289.out _)|exact HI0.out)⟩,⟨by repeat (first|(with_reducible first|exact HK.out|apply KeepBut.set_|apply keep_drewN|apply keep_drew|apply keep_alloc|refine keep_far ?_ GW289.out _)|exact HK.out)⟩,⟨by repeat (first|(with_reducible first|exact HB.out|apply below_alloc|apply pw_below_drewN|apply below_drew1|refine below_set ?_ (IsS82.ge HI0.out)|refine below_set ?_ GE289.out)|exact HB.out)⟩⟩
 case rest =>
  clear HC4
  try clear c1
  try clear p2
  try clear c5
  try clear c6
  try clear c6b0
  try clear c7
  try clear c7b0
  try clear c9
  try clear c9b0
  obtain ⟨kq,x24_3,x1001_3,rfl,HA,HJ3,BK289,HI0,HK,HB⟩ := hcut
  cases kq with
  | zero => exact absurd HA.out (by simp [spec_goodGroup.j0])
  | succ kj3 =>
   have H := HA.out
   clear HA
   simp only [spec_goodGroup.j0] at H
   by_cases c16 : x24_3 = true
   ·subst c16
    have H1 : ((spec_reader_pick.f kj3 s0_0 x1001_3 (l1_0.length : Int)).bind fun bt296 => ((spec_reader_one.f kj3 s0_0 bt296.2 (([1,2,3,0,99] : List Int))).bind fun bt301 => (some ((([(⟨a2,false,bt296.1,bt301.1⟩ : S46)] : List (S46))),bt301.2)))) = some (r1,r2) := by rw [if_pos rfl] at H;exact H
    clear H
    have H := H1
    clear H1
    replace H := Option.bind_eq_some_iff.mp H
    obtain ⟨⟨t296,t297⟩,A170,H⟩ := H
    replace H : ((spec_reader_one.f kj3 s0_0 t297 (([1,2,3,0,99] : List Int))).bind fun bt301 => (some ((([(⟨a2,false,t296,bt301.1⟩ : S46)] : List (S46))),bt301.2))) = some (r1,r2) := H
    have A17 := Aside0.mk A170
    clear A170
    obtain ⟨y298,hy298⟩ : ∃ y_ : List Int,y_ = (([1,2,3,0,99] : List Int)) := ⟨_,rfl⟩
    replace H : ((spec_reader_one.f kj3 s0_0 t297 y298).bind fun bt301 => (some ((([(⟨a2,false,t296,bt301.1⟩ : S46)] : List (S46))),bt301.2))) = some (r1,r2) := by first|(rw [hy298];with_reducible exact H)|(have H2_ := (Option.bind_some _ _).symm.trans H;rw [hy298];with_reducible exact H2_)|(have H2_ := (Option.bind_some _ _).symm.trans H;with_reducible exact H2_)|with_reducible exact H|(rw [hy298];exact H)|exact H
    have Ny298 := Aside0.mk hy298
    clear hy298
    replace H := Option.bind_eq_some_iff.mp H
    obtain ⟨⟨t301,t302⟩,A180,H⟩ := H
    replace H : (some ((([(⟨a2,false,t296,t301⟩ : S46)] : List (S46))),t302)) = some (r1,r2) := H
    have A18 := Aside0.mk A180
    clear A180
    obtain ⟨y303,hy303⟩ : ∃ y_ : List (S46),y_ = (([(⟨a2,false,t296,t301⟩ : S46)] : List (S46))) := ⟨_,rfl⟩
    replace H : (some (y303,t302)) = some (r1,r2) := by first|(rw [hy303];with_reducible exact H)|(have H2_ := (Option.bind_some _ _).symm.trans H;rw [hy303];with_reducible exact H2_)|(have H2_ := (Option.bind_some _ _).symm.trans H;with_reducible exact H2_)|with_reducible exact H|(rw [hy303];exact H)|exact H
    have Ny303 := Aside0.mk hy303
    clear hy303
    simp only [Option.some.injEq,Prod.mk.injEq] at H
    obtain ⟨rfl,rfl⟩ := H
    have hnb19 := NB289_0.out
    have hnc19 := NB0_289.out
    have hcz20_0 : wc.cell? ⟨gb289,0,none⟩ = some (.slice A1_0 l1_0.length c1_0) := (blk_cell BK289.out 0).trans rfl
    have hfz20_0 := blk_frozen BK289.out 0
    go_wp2_with (first|((with_reducible refine gate_callee (f := 51) rfl ?_);refine goesL_ (some 30) rfl rfl Try.func51 (by kernel_rfl) rfl #[.pointer (some ⟨g,0,none⟩),.int .i64 (l1_0.length : Int)] rfl (by (try simp only [List.map_toArray,List.map_cons,List.map_nil]);first|done|rfl|(simp only [List.length_drop,List.length_take];rfl)) ?_;(with_reducible refine (spec_reader_pick.calls kj3 g s0_0 x1001_3 (l1_0.length : Int) t296 t297 w0 _ ?side1 ?side2 A17.out).mono ?_);(case side1 => repeat (first|(with_reducible first|exact HI0.out|apply IsS82.alloc|apply IsS82.drewN|apply IsS82.drew|apply IsS82.set_1|refine IsS82.far ?_ NB0_289.out _)|exact HI0.out));(case side2 => repeat (first|(with_reducible first|exact HB.out|apply below_alloc|apply pw_below_drewN|apply below_drew1|refine below_set ?_ (IsS82.ge HI0.out)|refine below_set ?_ GE289.out)|exact HB.out));rintro e w21 ⟨rfl,hi,hb,hk⟩;refine ⟨_,rfl,?_⟩;have n0_ := Aside0.mk (KeepBut.blk hk (g' := gb289) (o := .cells #[.slice A1_0 l1_0.length c1_0] 31 (0,0)) (by (with_reducible repeat (first|refine blk_drewN ?_ _|refine blk_drew ?_|refine blk_alloc ?_ _));exact BK289.out) NB289_0.out (by simp));have n1_ := Aside0.mk (KeepBut.trans (by repeat (first|(with_reducible first|exact HK.out|apply KeepBut.set_|apply keep_drewN|apply keep_drew|apply keep_alloc|refine keep_far ?_ GW289.out _)|exact HK.out)) hk (.inl rfl));have n2_ := Aside0.mk (hb);have n3_ := Aside0.mk (hi);clear BK289;clear HK;clear HB;clear HI0;have BK289 := n0_;have HK := n1_;have HB := n2_;have HI0 := n3_;clear n0_ n1_ n2_ n3_;(try clear hb);(try clear hb2);(try clear hk);(try clear hi))|((with_reducible refine gate_dst (N := 32) rfl ?_);refine Kd.R_lit (Kd.int .i64) _ 3 ?hg (N := 32) ?hd (xs := ([1,2,3,0,99] : List Int)) (inner := [.int .i64 1,.int .i64 2,.int .i64 3,.int .i64 0,.int .i64 99]) (ok := fun _ => True) (okp := fun _ => True) ?hr ?hp (fun _ hk => hk) trivial (Below.refl _ _) (Nat.le_refl _) (by simp) ?_;(case hd => rfl);(case hg => rfl);(case hr => first|(go_simp;done)|(go_simp;rfl));(case hp => exact (Reps.one (show Kd.M (Kd.int .i64) _ _ _ 1 [.int .i64 1] from rfl) (Reps.one (show Kd.M (Kd.int .i64) _ _ _ 2 [.int .i64 2] from rfl) (Reps.one (show Kd.M (Kd.int .i64) _ _ _ 3 [.int .i64 3] from rfl) (Reps.one (show Kd.M (Kd.int .i64) _ _ _ 0 [.int .i64 0] from rfl) (Reps.one (show Kd.M (Kd.int .i64) _ _ _ 99 [.int .i64 99] from rfl) (Reps.none _ _)))))));intro v299 w22 ho23 hb hg_ hnew_;clear hg_ hnew_;(first|rw [← Ny298.out] at ho23|(simp only [Int.reduceToNat] at ho23;rw [← Ny298.out] at ho23));have n0_ := Aside0.mk (Kd.R_lower ho23 (keep_size (w := w) (g := g) (row := none) (by repeat (first|(with_reducible first|exact HK.out|apply KeepBut.set_|apply keep_drewN|apply keep_drew|apply keep_alloc|refine keep_far ?_ GW289.out _)|exact HK.out))));have n1_ := Aside0.mk (blk_below (g := gb289) (o := .cells #[.slice A1_0 l1_0.length c1_0] 31 (0,0)) (by (with_reducible repeat (first|refine blk_drewN ?_ _|refine blk_drew ?_|refine blk_alloc ?_ _));exact BK289.out) hb);have n2_ := Aside0.mk (IsS82.below (by repeat (first|(with_reducible first|exact HI0.out|apply IsS82.alloc|apply IsS82.drewN|apply IsS82.drew|apply IsS82.set_1|refine IsS82.far ?_ NB0_289.out _)|exact HI0.out)) hb);have n3_ := Aside0.mk (KeepBut.trans (by repeat (first|(with_reducible first|exact HK.out|apply KeepBut.set_|apply keep_drewN|apply keep_drew|apply keep_alloc|refine keep_far ?_ GW289.out _)|exact HK.out)) (KeepBut.of_below hb g none) (.inl rfl));have n4_ := Aside0.mk (below_step (by repeat (first|(with_reducible first|exact HB.out|apply below_alloc|apply pw_below_drewN|apply below_drew1|refine below_set ?_ (IsS82.ge HI0.out)|refine below_set ?_ GE289.out)|exact HB.out)) hb);clear BK289;clear HI0;clear HK;clear HB;have HO300 := n0_;have BK289 := n1_;have HI0 := n2_;have HK := n3_;have HB := n4_;clear n0_ n1_ n2_ n3_ n4_;clear hb ho23;obtain ⟨Ao24,co24,eo24⟩ := Kd.R_slice HO300.out;subst eo24)|((with_reducible refine gate_callee (f := 52) rfl ?_);refine goesL_ (some 33) rfl rfl Try.func52 (by kernel_rfl) rfl #[.pointer (some ⟨g,0,none⟩),.slice Ao24 y298.length co24] rfl (by (try simp only [List.map_toArray,List.map_cons,List.map_nil]);first|done|rfl|(simp only [List.length_drop,List.length_take];rfl)) ?_;(with_reducible refine (spec_reader_one.calls kj3 g s0_0 t297 _ _ y298 t301 t302 w0 _ ?side1 ?side2 ?side3 ?side4 ?side5 A18.out).mono ?_);(case side1 => repeat (first|(with_reducible first|exact HI0.out|apply IsS82.alloc|apply IsS82.drewN|apply IsS82.drew|apply IsS82.set_1|refine IsS82.far ?_ NB0_289.out _)|exact HI0.out));(case side2 => repeat (first|(with_reducible first|exact HB.out|apply below_alloc|apply pw_below_drewN|apply below_drew1|refine below_set ?_ (IsS82.ge HI0.out)|refine below_set ?_ GE289.out)|exact HB.out));(case side3 => repeat (first|exact (Kd.R_reads' HO300.out).2.2|(with_reducible refine Kd.C_alloc ?_ _)|(with_reducible refine Kd.C_drewN ?_ _)|(with_reducible refine Kd.C_drew ?_)));(case side4 => exact (Kd.R_reads' HO300.out).2.1);(case side5 => exact far_slice (IsS82.own_ne HI0.out HO300.out (by decide)));rintro e w25 ⟨rfl,hi,hb,hk⟩;refine ⟨_,rfl,?_⟩;have n0_ := Aside0.mk (KeepBut.blk hk (g' := gb289) (o := .cells #[.slice A1_0 l1_0.length c1_0] 31 (0,0)) (by (with_reducible repeat (first|refine blk_drewN ?_ _|refine blk_drew ?_|refine blk_alloc ?_ _));exact BK289.out) NB289_0.out (by simp));have n1_ := Aside0.mk (Kd.R_mono (Kd.R_keep (IsS82.apart (show IsS82 w0 _ g s0_0 t297 from by repeat (first|(with_reducible first|exact HI0.out|apply IsS82.alloc|apply IsS82.drewN|apply IsS82.drew|apply IsS82.set_1|refine IsS82.far ?_ NB0_289.out _)|exact HI0.out)) (by (with_reducible repeat (first|apply Kd.R_alloc|apply Kd.R_drewN|apply Kd.R_drew));exact HO300.out) (by decide)) hk (fun _ h => h.2)) (fun _ h => h.1));have n2_ := Aside0.mk (KeepBut.trans (by repeat (first|(with_reducible first|exact HK.out|apply KeepBut.set_|apply keep_drewN|apply keep_drew|apply keep_alloc|refine keep_far ?_ GW289.out _)|exact HK.out)) hk (.inl rfl));have n3_ := Aside0.mk (hb);have n4_ := Aside0.mk (hi);clear BK289;clear HO300;clear HK;clear HB;clear HI0;have BK289 := n0_;have HO300 := n1_;have HK := n2_;have HB := n3_;have HI0 := n4_;clear n0_ n1_ n2_ n3_ n4_;(try clear hb);(try clear hb2);(try clear hk);(try clear hi))|((with_reducible refine gate_dst (N := 35) rfl ?_);refine Kd.R_lit k46 _ 46 ?hg (N := 35) ?hd (xs := ([(⟨a2,false,t296,t301⟩ : S46)] : List (S46))) (inner := [.int .i64 a2,.bool false,.int .i64 t296,.int .i64 t301]) (ok := fun _ => True) (okp := fun _ => True) ?hr ?hp (fun _ hk => hk) trivial (Below.refl _ _) (Nat.le_refl _) (by simp) ?_;(case hd => rfl);(case hg => rfl);(case hr => first|(go_simp;done)|(go_simp;rfl));(case hp => exact (Reps.c4 (show Kd.M k46 _ _ _ (⟨a2,false,t296,t301⟩ : S46) [.int .i64 a2,.bool false,.int .i64 t296,.int .i64 t301] from (k46_mkM _ _ _ (⟨a2,false,t296,t301⟩ : S46) )) (Reps.none _ _)));intro v304 w26 ho27 hb hg_ hnew_;clear hg_ hnew_;(first|rw [← Ny303.out] at ho27|(simp only [Int.reduceToNat] at ho27;rw [← Ny303.out] at ho27));have n0_ := Aside0.mk (Kd.R_below (by (with_reducible repeat (first|apply Kd.R_alloc|apply Kd.R_drewN|apply Kd.R_drew));exact HO300.out) hb);have n1_ := Aside0.mk (Kd.R_lower ho27 (keep_size (w := w) (g := g) (row := none) (by repeat (first|(with_reducible first|exact HK.out|apply KeepBut.set_|apply keep_drewN|apply keep_drew|apply keep_alloc|refine keep_far ?_ GW289.out _)|exact HK.out))));have n2_ := Aside0.mk (blk_below (g := gb289) (o := .cells #[.slice A1_0 l1_0.length c1_0] 31 (0,0)) (by (with_reducible repeat (first|refine blk_drewN ?_ _|refine blk_drew ?_|refine blk_alloc ?_ _));exact BK289.out) hb);have n3_ := Aside0.mk (IsS82.below (by repeat (first|(with_reducible first|exact HI0.out|apply IsS82.alloc|apply IsS82.drewN|apply IsS82.drew|apply IsS82.set_1|refine IsS82.far ?_ NB0_289.out _)|exact HI0.out)) hb);have n4_ := Aside0.mk (KeepBut.trans (by repeat (first|(with_reducible first|exact HK.out|apply KeepBut.set_|apply keep_drewN|apply keep_drew|apply keep_alloc|refine keep_far ?_ GW289.out _)|exact HK.out)) (KeepBut.of_below hb g none) (.inl rfl));have n5_ := Aside0.mk (below_step (by repeat (first|(with_reducible first|exact HB.out|apply below_alloc|apply pw_below_drewN|apply below_drew1|refine below_set ?_ (IsS82.ge HI0.out)|refine below_set ?_ GE289.out)|exact HB.out)) hb);clear HO300;clear BK289;clear HI0;clear HK;clear HB;have HO300 := n0_;have HO305 := n1_;have BK289 := n2_;have HI0 := n3_;have HK := n4_;have HB := n5_;clear n0_ n1_ n2_ n3_ n4_ n5_;clear hb ho27))
    go_ret
    exact ⟨_,by first|rfl|(simp [errW_none,errW_some] <;> rfl)|(simp [*,errW_none,errW_some] <;> rfl),by (with_reducible repeat (first|apply Kd.R_alloc|apply Kd.R_drewN|apply Kd.R_drew));exact HO305.out,by repeat (first|(with_reducible first|exact HI0.out|apply IsS82.alloc|apply IsS82.drewN|apply IsS82.drew|apply IsS82.set_1|refine IsS82.far ?_ NB0_289.out _)|exact HI0.out),by repeat (first|(with_reducible first|exact HB.out|apply below_alloc|apply pw_below_drewN|apply below_drew1|refine below_set ?_ (IsS82.ge HI0.out)|refine below_set ?_ GE289.out)|exact HB.out),by repeat (first|(with_reducible first|exact HK.out|apply KeepBut.set_|apply keep_drewN|apply keep_drew|apply keep_alloc|refine keep_far ?_ GW289.out _)|exact HK.out)⟩
   ·replace c16 := Bool.eq_false_iff.mpr c16
    subst c16
    have H1 : ((spec_reader_one.f kj3 s0_0 x1001_3 (([1,2,0,7] : List Int))).bind fun bt309 => ((spec_reader_one.f kj3 s0_0 bt309.2 (([2,3,1] : List Int))).bind fun bt317 => (spec_goodGroup.l0 kj3 a2 (([(⟨a2,true,0,bt309.1⟩ : S46)] : List (S46))) bt317.1 s0_0 bt317.2 l1_0))) = some (r1,r2) := by rw [if_neg (show ¬ (false = true) by decide)] at H;exact H
    clear H
    have H := H1
    clear H1
    obtain ⟨y306,hy306⟩ : ∃ y_ : List Int,y_ = (([1,2,0,7] : List Int)) := ⟨_,rfl⟩
    replace H : ((spec_reader_one.f kj3 s0_0 x1001_3 y306).bind fun bt309 => ((spec_reader_one.f kj3 s0_0 bt309.2 (([2,3,1] : List Int))).bind fun bt317 => (spec_goodGroup.l0 kj3 a2 (([(⟨a2,true,0,bt309.1⟩ : S46)] : List (S46))) bt317.1 s0_0 bt317.2 l1_0))) = some (r1,r2) := by first|(rw [hy306];with_reducible exact H)|(have H2_ := (Option.bind_some _ _).symm.trans H;rw [hy306];with_reducible exact H2_)|(have H2_ := (Option.bind_some _ _).symm.trans H;with_reducible exact H2_)|with_reducible exact H|(rw [hy306];exact H)|exact H
    have Ny306 := Aside0.mk hy306
    clear hy306
    replace H := Option.bind_eq_some_iff.mp H
    obtain ⟨⟨t309,t310⟩,A280,H⟩ := H
    replace H : ((spec_reader_one.f kj3 s0_0 t310 (([2,3,1] : List Int))).bind fun bt317 => (spec_goodGroup.l0 kj3 a2 (([(⟨a2,true,0,t309⟩ : S46)] : List (S46))) bt317.1 s0_0 bt317.2 l1_0)) = some (r1,r2) := H
    have A28 := Aside0.mk A280
    clear A280
    obtain ⟨y311,hy311⟩ : ∃ y_ : List (S46),y_ = (([(⟨a2,true,0,t309⟩ : S46)] : List (S46))) := ⟨_,rfl⟩
    replace H : ((spec_reader_one.f kj3 s0_0 t310 (([2,3,1] : List Int))).bind fun bt317 => (spec_goodGroup.l0 kj3 a2 y311 bt317.1 s0_0 bt317.2 l1_0)) = some (r1,r2) := by first|(rw [hy311];with_reducible exact H)|(have H2_ := (Option.bind_some _ _).symm.trans H;rw [hy311];with_reducible exact H2_)|(have H2_ := (Option.bind_some _ _).symm.trans H;with_reducible exact H2_)|with_reducible exact H|(rw [hy311];exact H)|exact H
    have Ny311 := Aside0.mk hy311
    clear hy311
    obtain ⟨y314,hy314⟩ : ∃ y_ : List Int,y_ = (([2,3,1] : List Int)) := ⟨_,rfl⟩
    replace H : ((spec_reader_one.f kj3 s0_0 t310 y314).bind fun bt317 => (spec_goodGroup.l0 kj3 a2 y311 bt317.1 s0_0 bt317.2 l1_0)) = some (r1,r2) := by first|(rw [hy314];with_reducible exact H)|(have H2_ := (Option.bind_some _ _).symm.trans H;rw [hy314];with_reducible exact H2_)|(have H2_ := (Option.bind_some _ _).symm.trans H;with_reducible exact H2_)|with_reducible exact H|(rw [hy314];exact H)|exact H
    have Ny314 := Aside0.mk hy314
    clear hy314
    replace H := Option.bind_eq_some_iff.mp H
    obtain ⟨⟨t317,t318⟩,A290,H⟩ := H
    replace H : (spec_goodGroup.l0 kj3 a2 y311 t317 s0_0 t318 l1_0) = some (r1,r2) := H
    have A29 := Aside0.mk A290
    clear A290
    have H' := Aside0.mk H
    clear H
    go_wp2_with (first|((with_reducible refine gate_dst (N := 38) rfl ?_);refine Kd.R_lit (Kd.int .i64) _ 3 ?hg (N := 38) ?hd (xs := ([1,2,0,7] : List Int)) (inner := [.int .i64 1,.int .i64 2,.int .i64 0,.int .i64 7]) (ok := fun _ => True) (okp := fun _ => True) ?hr ?hp (fun _ hk => hk) trivial (Below.refl _ _) (Nat.le_refl _) (by simp) ?_;(case hd => rfl);(case hg => rfl);(case hr => first|(go_simp;done)|(go_simp;rfl));(case hp => exact (Reps.one (show Kd.M (Kd.int .i64) _ _ _ 1 [.int .i64 1] from rfl) (Reps.one (show Kd.M (Kd.int .i64) _ _ _ 2 [.int .i64 2] from rfl) (Reps.one (show Kd.M (Kd.int .i64) _ _ _ 0 [.int .i64 0] from rfl) (Reps.one (show Kd.M (Kd.int .i64) _ _ _ 7 [.int .i64 7] from rfl) (Reps.none _ _))))));intro v307 w30 ho31 hb hg_ hnew_;clear hg_ hnew_;(first|rw [← Ny306.out] at ho31|(simp only [Int.reduceToNat] at ho31;rw [← Ny306.out] at ho31));have n0_ := Aside0.mk (Kd.R_lower ho31 (keep_size (w := w) (g := g) (row := none) (by repeat (first|(with_reducible first|exact HK.out|apply KeepBut.set_|apply keep_drewN|apply keep_drew|apply keep_alloc|refine keep_far ?_ GW289.out _)|exact HK.out))));have n1_ := Aside0.mk (blk_below (g := gb289) (o := .cells #[.slice A1_0 l1_0.length c1_0] 31 (0,0)) (by (with_reducible repeat (first|refine blk_drewN ?_ _|refine blk_drew ?_|refine blk_alloc ?_ _));exact BK289.out) hb);have n2_ := Aside0.mk (IsS82.below (by repeat (first|(with_reducible first|exact HI0.out|apply IsS82.alloc|apply IsS82.drewN|apply IsS82.drew|apply IsS82.set_1|refine IsS82.far ?_ NB0_289.out _)|exact HI0.out)) hb);have n3_ := Aside0.mk (KeepBut.trans (by repeat (first|(with_reducible first|exact HK.out|apply KeepBut.set_|apply keep_drewN|apply keep_drew|apply keep_alloc|refine keep_far ?_ GW289.out _)|exact HK.out)) (KeepBut.of_below hb g none) (.inl rfl));have n4_ := Aside0.mk (below_step (by repeat (first|(with_reducible first|exact HB.out|apply below_alloc|apply pw_below_drewN|apply below_drew1|refine below_set ?_ (IsS82.ge HI0.out)|refine below_set ?_ GE289.out)|exact HB.out)) hb);clear BK289;clear HI0;clear HK;clear HB;have HO308 := n0_;have BK289 := n1_;have HI0 := n2_;have HK := n3_;have HB := n4_;clear n0_ n1_ n2_ n3_ n4_;clear hb ho31;obtain ⟨Ao32,co32,eo32⟩ := Kd.R_slice HO308.out;subst eo32)|((with_reducible refine gate_callee (f := 52) rfl ?_);refine goesL_ (some 39) rfl rfl Try.func52 (by kernel_rfl) rfl #[.pointer (some ⟨g,0,none⟩),.slice Ao32 y306.length co32] rfl (by (try simp only [List.map_toArray,List.map_cons,List.map_nil]);first|done|rfl|(simp only [List.length_drop,List.length_take];rfl)) ?_;(with_reducible refine (spec_reader_one.calls kj3 g s0_0 x1001_3 _ _ y306 t309 t310 w0 _ ?side1 ?side2 ?side3 ?side4 ?side5 A28.out).mono ?_);(case side1 => repeat (first|(with_reducible first|exact HI0.out|apply IsS82.alloc|apply IsS82.drewN|apply IsS82.drew|apply IsS82.set_1|refine IsS82.far ?_ NB0_289.out _)|exact HI0.out));(case side2 => repeat (first|(with_reducible first|exact HB.out|apply below_alloc|apply pw_below_drewN|apply below_drew1|refine below_set ?_ (IsS82.ge HI0.out)|refine below_set ?_ GE289.out)|exact HB.out));(case side3 => repeat (first|exact (Kd.R_reads' HO308.out).2.2|(with_reducible refine Kd.C_alloc ?_ _)|(with_reducible refine Kd.C_drewN ?_ _)|(with_reducible refine Kd.C_drew ?_)));(case side4 => exact (Kd.R_reads' HO308.out).2.1);(case side5 => exact far_slice (IsS82.own_ne HI0.out HO308.out (by decide)));rintro e w33 ⟨rfl,hi,hb,hk⟩;refine ⟨_,rfl,?_⟩;have n0_ := Aside0.mk (KeepBut.blk hk (g' := gb289) (o := .cells #[.slice A1_0 l1_0.length c1_0] 31 (0,0)) (by (with_reducible repeat (first|refine blk_drewN ?_ _|refine blk_drew ?_|refine blk_alloc ?_ _));exact BK289.out) NB289_0.out (by simp));have n1_ := Aside0.mk (Kd.R_mono (Kd.R_keep (IsS82.apart (show IsS82 w0 _ g s0_0 x1001_3 from by repeat (first|(with_reducible first|exact HI0.out|apply IsS82.alloc|apply IsS82.drewN|apply IsS82.drew|apply IsS82.set_1|refine IsS82.far ?_ NB0_289.out _)|exact HI0.out)) (by (with_reducible repeat (first|apply Kd.R_alloc|apply Kd.R_drewN|apply Kd.R_drew));exact HO308.out) (by decide)) hk (fun _ h => h.2)) (fun _ h => h.1));have n2_ := Aside0.mk (KeepBut.trans (by repeat (first|(with_reducible first|exact HK.out|apply KeepBut.set_|apply keep_drewN|apply keep_drew|apply keep_alloc|refine keep_far ?_ GW289.out _)|exact HK.out)) hk (.inl rfl));have n3_ := Aside0.mk (hb);have n4_ := Aside0.mk (hi);clear BK289;clear HO308;clear HK;clear HB;clear HI0;have BK289 := n0_;have HO308 := n1_;have HK := n2_;have HB := n3_;have HI0 := n4_;clear n0_ n1_ n2_ n3_ n4_;(try clear hb);(try clear hb2);(try clear hk);(try clear hi))|((with_reducible refine gate_dst (N := 41) rfl ?_);refine Kd.R_lit k46 _ 46 ?hg (N := 41) ?hd (xs := ([(⟨a2,true,0,t309⟩ : S46)] : List (S46))) (inner := [.int .i64 a2,.bool true,.int .i64 0,.int .i64 t309]) (ok := fun _ => True) (okp := fun _ => True) ?hr ?hp (fun _ hk => hk) trivial (Below.refl _ _) (Nat.le_refl _) (by simp) ?_;(case hd => rfl);(case hg => rfl);(case hr => first|(go_simp;done)|(go_simp;rfl));(case hp => exact (Reps.c4 (show Kd.M k46 _ _ _ (⟨a2,true,0,t309⟩ : S46) [.int .i64 a2,.bool true,.int .i64 0,.int .i64 t309] from (k46_mkM _ _ _ (⟨a2,true,0,t309⟩ : S46) )) (Reps.none _ _)));intro v312 w34 ho35 hb hg_ hnew_;clear hg_ hnew_;(first|rw [← Ny311.out] at ho35|(simp only [Int.reduceToNat] at ho35;rw [← Ny311.out] at ho35));have n0_ := Aside0.mk (Kd.R_below (by (with_reducible repeat (first|apply Kd.R_alloc|apply Kd.R_drewN|apply Kd.R_drew));exact HO308.out) hb);have n1_ := Aside0.mk (Kd.R_lower ho35 (keep_size (w := w) (g := g) (row := none) (by repeat (first|(with_reducible first|exact HK.out|apply KeepBut.set_|apply keep_drewN|apply keep_drew|apply keep_alloc|refine keep_far ?_ GW289.out _)|exact HK.out))));have n2_ := Aside0.mk (blk_below (g := gb289) (o := .cells #[.slice A1_0 l1_0.length c1_0] 31 (0,0)) (by (with_reducible repeat (first|refine blk_drewN ?_ _|refine blk_drew ?_|refine blk_alloc ?_ _));exact BK289.out) hb);have n3_ := Aside0.mk (IsS82.below (by repeat (first|(with_reducible first|exact HI0.out|apply IsS82.alloc|apply IsS82.drewN|apply IsS82.drew|apply IsS82.set_1|refine IsS82.far ?_ NB0_289.out _)|exact HI0.out)) hb);have n4_ := Aside0.mk (KeepBut.trans (by repeat (first|(with_reducible first|exact HK.out|apply KeepBut.set_|apply keep_drewN|apply keep_drew|apply keep_alloc|refine keep_far ?_ GW289.out _)|exact HK.out)) (KeepBut.of_below hb g none) (.inl rfl));have n5_ := Aside0.mk (below_step (by repeat (first|(with_reducible first|exact HB.out|apply below_alloc|apply pw_below_drewN|apply below_drew1|refine below_set ?_ (IsS82.ge HI0.out)|refine below_set ?_ GE289.out)|exact HB.out)) hb);clear HO308;clear BK289;clear HI0;clear HK;clear HB;have HO308 := n0_;have HO313 := n1_;have BK289 := n2_;have HI0 := n3_;have HK := n4_;have HB := n5_;clear n0_ n1_ n2_ n3_ n4_ n5_;clear hb ho35)|((with_reducible refine gate_dst (N := 43) rfl ?_);refine Kd.R_lit (Kd.int .i64) _ 3 ?hg (N := 43) ?hd (xs := ([2,3,1] : List Int)) (inner := [.int .i64 2,.int .i64 3,.int .i64 1]) (ok := fun _ => True) (okp := fun _ => True) ?hr ?hp (fun _ hk => hk) trivial (Below.refl _ _) (Nat.le_refl _) (by simp) ?_;(case hd => rfl);(case hg => rfl);(case hr => first|(go_simp;done)|(go_simp;rfl));(case hp => exact (Reps.one (show Kd.M (Kd.int .i64) _ _ _ 2 [.int .i64 2] from rfl) (Reps.one (show Kd.M (Kd.int .i64) _ _ _ 3 [.int .i64 3] from rfl) (Reps.one (show Kd.M (Kd.int .i64) _ _ _ 1 [.int .i64 1] from rfl) (Reps.none _ _)))));intro v315 w36 ho37 hb hg_ hnew_;clear hg_ hnew_;(first|rw [← Ny314.out] at ho37|(simp only [Int.reduceToNat] at ho37;rw [← Ny314.out] at ho37));have n0_ := Aside0.mk (Kd.R_elder' (by (with_reducible repeat (first|apply Kd.R_alloc|apply Kd.R_drewN|apply Kd.R_drew));exact HO308.out) (Kd.R_base ho37) hb);have n1_ := Aside0.mk (Kd.R_below (by (with_reducible repeat (first|apply Kd.R_alloc|apply Kd.R_drewN|apply Kd.R_drew));exact HO313.out) hb);have n2_ := Aside0.mk (Kd.R_lower (Kd.R_new' ho37 (Kd.R_lt (by (with_reducible repeat (first|apply Kd.R_alloc|apply Kd.R_drewN|apply Kd.R_drew));exact HO308.out))) (keep_size (w := w) (g := g) (row := none) (by repeat (first|(with_reducible first|exact HK.out|apply KeepBut.set_|apply keep_drewN|apply keep_drew|apply keep_alloc|refine keep_far ?_ GW289.out _)|exact HK.out))));have n3_ := Aside0.mk (blk_below (g := gb289) (o := .cells #[.slice A1_0 l1_0.length c1_0] 31 (0,0)) (by (with_reducible repeat (first|refine blk_drewN ?_ _|refine blk_drew ?_|refine blk_alloc ?_ _));exact BK289.out) hb);have n4_ := Aside0.mk (IsS82.below (by repeat (first|(with_reducible first|exact HI0.out|apply IsS82.alloc|apply IsS82.drewN|apply IsS82.drew|apply IsS82.set_1|refine IsS82.far ?_ NB0_289.out _)|exact HI0.out)) hb);have n5_ := Aside0.mk (KeepBut.trans (by repeat (first|(with_reducible first|exact HK.out|apply KeepBut.set_|apply keep_drewN|apply keep_drew|apply keep_alloc|refine keep_far ?_ GW289.out _)|exact HK.out)) (KeepBut.of_below hb g none) (.inl rfl));have n6_ := Aside0.mk (below_step (by repeat (first|(with_reducible first|exact HB.out|apply below_alloc|apply pw_below_drewN|apply below_drew1|refine below_set ?_ (IsS82.ge HI0.out)|refine below_set ?_ GE289.out)|exact HB.out)) hb);clear HO308;clear HO313;clear BK289;clear HI0;clear HK;clear HB;have HO308 := n0_;have HO313 := n1_;have HO316 := n2_;have BK289 := n3_;have HI0 := n4_;have HK := n5_;have HB := n6_;clear n0_ n1_ n2_ n3_ n4_ n5_ n6_;clear hb ho37;obtain ⟨Ao38,co38,eo38⟩ := Kd.R_slice HO316.out;subst eo38)|((with_reducible refine gate_callee (f := 52) rfl ?_);refine goesL_ (some 44) rfl rfl Try.func52 (by kernel_rfl) rfl #[.pointer (some ⟨g,0,none⟩),.slice Ao38 y314.length co38] rfl (by (try simp only [List.map_toArray,List.map_cons,List.map_nil]);first|done|rfl|(simp only [List.length_drop,List.length_take];rfl)) ?_;(with_reducible refine (spec_reader_one.calls kj3 g s0_0 t310 _ _ y314 t317 t318 w0 _ ?side1 ?side2 ?side3 ?side4 ?side5 A29.out).mono ?_);(case side1 => repeat (first|(with_reducible first|exact HI0.out|apply IsS82.alloc|apply IsS82.drewN|apply IsS82.drew|apply IsS82.set_1|refine IsS82.far ?_ NB0_289.out _)|exact HI0.out));(case side2 => repeat (first|(with_reducible first|exact HB.out|apply below_alloc|apply pw_below_drewN|apply below_drew1|refine below_set ?_ (IsS82.ge HI0.out)|refine below_set ?_ GE289.out)|exact HB.out));(case side3 => repeat (first|exact (Kd.R_reads' HO316.out).2.2|(with_reducible refine Kd.C_alloc ?_ _)|(with_reducible refine Kd.C_drewN ?_ _)|(with_reducible refine Kd.C_drew ?_)));(case side4 => exact (Kd.R_reads' HO316.out).2.1);(case side5 => exact far_slice (IsS82.own_ne HI0.out HO316.out (by decide)));rintro e w39 ⟨rfl,hi,hb,hk⟩;refine ⟨_,rfl,?_⟩;have n0_ := Aside0.mk (KeepBut.blk hk (g' := gb289) (o := .cells #[.slice A1_0 l1_0.length c1_0] 31 (0,0)) (by (with_reducible repeat (first|refine blk_drewN ?_ _|refine blk_drew ?_|refine blk_alloc ?_ _));exact BK289.out) NB289_0.out (by simp));have n1_ := Aside0.mk (Kd.R_mono (Kd.R_keep (IsS82.apart (show IsS82 w0 _ g s0_0 t310 from by repeat (first|(with_reducible first|exact HI0.out|apply IsS82.alloc|apply IsS82.drewN|apply IsS82.drew|apply IsS82.set_1|refine IsS82.far ?_ NB0_289.out _)|exact HI0.out)) (by (with_reducible repeat (first|apply Kd.R_alloc|apply Kd.R_drewN|apply Kd.R_drew));exact HO308.out) (by decide)) hk (fun _ h => h.2)) (fun _ h => h.1));have n2_ := Aside0.mk (Kd.R_mono (Kd.R_keep (IsS82.apart (show IsS82 w0 _ g s0_0 t310 from by repeat (first|(with_reducible first|exact HI0.out|apply IsS82.alloc|apply IsS82.drewN|apply IsS82.drew|apply IsS82.set_1|refine IsS82.far ?_ NB0_289.out _)|exact HI0.out)) (by (with_reducible repeat (first|apply Kd.R_alloc|apply Kd.R_drewN|apply Kd.R_drew));exact HO313.out) (by decide)) hk (fun _ h => h.2)) (fun _ h => h.1));have n3_ := Aside0.mk (Kd.R_mono (Kd.R_keep (IsS82.apart (show IsS82 w0 _ g s0_0 t310 from by repeat (first|(with_reducible first|exact HI0.out|apply IsS82.alloc|apply IsS82.drewN|apply IsS82.drew|apply IsS82.set_1|refine IsS82.far ?_ NB0_289.out _)|exact HI0.out)) (by (with_reducible repeat (first|apply Kd.R_alloc|apply Kd.R_drewN|apply Kd.R_drew));exact HO316.out) (by decide)) hk (fun _ h => h.2)) (fun _ h => h.1));have n4_ := Aside0.mk (KeepBut.trans (by repeat (first|(with_reducible first|exact HK.out|apply KeepBut.set_|apply keep_drewN|apply keep_drew|apply keep_alloc|refine keep_far ?_ GW289.out _)|exact HK.out)) hk (.inl rfl));have n5_ := Aside0.mk (hb);have n6_ := Aside0.mk (hi);clear BK289;clear HO308;clear HO313;clear HO316;clear HK;clear HB;clear HI0;have BK289 := n0_;have HO308 := n1_;have HO313 := n2_;have HO316 := n3_;have HK := n4_;have HB := n5_;have HI0 := n6_;clear n0_ n1_ n2_ n3_ n4_ n5_ n6_;(try clear hb);(try clear hb2);(try clear hk);(try clear hi)))
    go_loopg [7,8] kj3 (fun kq v7 v8 w' => ∃ (x7_2 : List (S46)) (x8_2 : Int) (x1001_2 : Int),v8 = .int .i64 x8_2 ∧ Aside0 (spec_goodGroup.l0 kq a2 x7_2 x8_2 s0_0 x1001_2 l1_0 = some (r1,r2)) ∧ Aside0 (kq ≤ kj3) ∧ Aside0 (Kd.R k46 46 w' w.heap.size (fun _ => True) v7 x7_2) ∧ Aside0 (w'.heap[gb289]? = some (.cells #[(.slice A1_0 l1_0.length c1_0)] 31 (0,0))) ∧ Aside0 (IsS82 w0 w' g s0_0 x1001_2) ∧ Aside0 (KeepBut w w' g none) ∧ Aside0 (Below w0.heap.size w0 w'))
    case atStart => exact ⟨(y311),(t317),(t318),(by first|rfl|(simp;done)|(simp [*];done)),H',⟨Nat.le_refl _⟩,⟨by (with_reducible repeat (first|apply Kd.R_alloc|apply Kd.R_drewN|apply Kd.R_drew));exact HO313.out⟩,⟨by (with_reducible repeat (first|refine blk_drewN ?_ _|refine blk_drew ?_|refine blk_alloc ?_ _));exact BK289.out⟩,⟨by repeat (first|(with_reducible first|exact HI0.out|apply IsS82.alloc|apply IsS82.drewN|apply IsS82.drew|apply IsS82.set_1|refine IsS82.far ?_ NB0_289.out _)|exact HI0.out)⟩,⟨by repeat (first|(with_reducible first|exact HK.out|apply KeepBut.set_|apply keep_drewN|apply keep_drew|apply keep_alloc|refine keep_far ?_ GW289.out _)|exact HK.out)⟩,⟨by repeat (first|(with_reducible first|exact HB.out|apply below_alloc|apply pw_below_drewN|apply below_drew1|refine below_set ?_ (IsS82.ge HI0.out)|refine below_set ?_ GE289.out)|exact HB.out)⟩⟩
    case round =>
     clear H'
     try clear c1
     try clear p2
     try clear c4
     try clear c5
     try clear c6
     try clear c6b0
     try clear c7
     try clear c7b0
     try clear c9
     try clear c9b0
     try clear c16
     try clear c19
     try clear hcz20_0
     try clear hfz20_0
     try clear p2
     obtain ⟨x7_2,x8_2,x1001_2,rfl,HA,HK2,HO_7,BK289,HI0,HK,HB⟩ := hrel
     cases gk with
     | zero => exact absurd HA.out (by simp [spec_goodGroup.l0])
     | succ k2 =>
      have H := HA.out
      clear HA
      simp only [spec_goodGroup.l0] at H
      by_cases c40 : x8_2 > 0
      ·rw [if_pos c40] at H
       have c40b0 : decide (0 < x8_2) = true := decide_eq_true c40
       clear c40
       replace H := Option.bind_eq_some_iff.mp H
       obtain ⟨⟨t319,t322⟩,A410,H⟩ := H
       replace H : (if x7_2.length + t319.length < 4398046511104 then (spec_goodGroup.l0 k2 a2 (x7_2 ++ t319) (wrap64 (x8_2 - 1)) s0_0 t322 l1_0) else (none)) = some (r1,r2) := H
       have A41 := Aside0.mk A410
       clear A410
       by_cases c42 : x7_2.length + t319.length < 4398046511104
       ·rw [if_pos c42] at H
        have LMc42 := Aside0.mk c42
        clear c42
        obtain ⟨y323,hy323⟩ : ∃ y_ : List (S46),y_ = (x7_2 ++ t319) := ⟨_,rfl⟩
        replace H : (spec_goodGroup.l0 k2 a2 y323 (wrap64 (x8_2 - 1)) s0_0 t322 l1_0) = some (r1,r2) := by first|(rw [hy323];with_reducible exact H)|(have H2_ := (Option.bind_some _ _).symm.trans H;rw [hy323];with_reducible exact H2_)|(have H2_ := (Option.bind_some _ _).symm.trans H;with_reducible exact H2_)|with_reducible exact H|(rw [hy323];exact H)|exact H
        have Ny323 := Aside0.mk hy323
        clear hy323
        have H' := Aside0.mk H
        clear H
        have hnb43 := NB289_0.out
        have hnc43 := NB0_289.out
        have hcz44_0 : wr.cell? ⟨gb289,0,none⟩ = some (.slice A1_0 l1_0.length c1_0) := (blk_cell BK289.out 0).trans rfl
        have hfz44_0 := blk_frozen BK289.out 0
        go_wp2_with (first|((with_reducible refine gate_callee (f := 50) rfl ?_);refine goesL_ (some 54) rfl rfl Try.func50 (by kernel_rfl) rfl #[.pointer (some ⟨g,0,none⟩),.agg #[.slice A1_0 l1_0.length c1_0],.int .i64 (wrap64 (a2 + 1))] rfl (by (try simp only [List.map_toArray,List.map_cons,List.map_nil]);first|done|rfl|(simp only [List.length_drop,List.length_take];rfl)) ?_;(with_reducible refine (ih k2 (by have := HJ3.out;have := HK2.out;omega) g s0_0 x1001_2 _ _ l1_0 (wrap64 (a2 + 1)) t319 t322 w0 _ ?side1 ?side2 ?side3 ?side4 A41.out).mono ?_);(case side1 => repeat (first|(with_reducible first|exact HI0.out|apply IsS82.alloc|apply IsS82.drewN|apply IsS82.drew|apply IsS82.set_1|refine IsS82.far ?_ NB0_289.out _)|exact HI0.out));(case side2 => repeat (first|(with_reducible first|exact HB.out|apply below_alloc|apply pw_below_drewN|apply below_drew1|refine below_set ?_ (IsS82.ge HI0.out)|refine below_set ?_ GE289.out)|exact HB.out));(case side3 => exact Kd.C_foot_step HR1_0.out (by repeat (first|(with_reducible first|exact HK.out|apply KeepBut.set_|apply keep_drewN|apply keep_drew|apply keep_alloc|refine keep_far ?_ GW289.out _)|exact HK.out)));(case side4 => exact HC1_0.out);rintro e w45 ⟨v320,rfl,ho0,hi,hb,hk⟩;refine ⟨_,rfl,?_⟩;have n0_ := Aside0.mk (Kd.R_mono (Kd.R_told (Kd.R_oldK (IsS82.apart (show IsS82 w0 _ g s0_0 x1001_2 from by repeat (first|(with_reducible first|exact HI0.out|apply IsS82.alloc|apply IsS82.drewN|apply IsS82.drew|apply IsS82.set_1|refine IsS82.far ?_ NB0_289.out _)|exact HI0.out)) (by (with_reducible repeat (first|apply Kd.R_alloc|apply Kd.R_drewN|apply Kd.R_drew));exact HO_7.out) (by decide)) hk) (Kd.R_base ho0)) (fun _ h_ => h_.1));have n1_ := Aside0.mk (KeepBut.blk hk (g' := gb289) (o := .cells #[.slice A1_0 l1_0.length c1_0] 31 (0,0)) (by (with_reducible repeat (first|refine blk_drewN ?_ _|refine blk_drew ?_|refine blk_alloc ?_ _));exact BK289.out) NB289_0.out (by simp));have n2_ := Aside0.mk (Kd.R_lower (Kd.R_new' ho0 (Kd.R_lt (by (with_reducible repeat (first|apply Kd.R_alloc|apply Kd.R_drewN|apply Kd.R_drew));exact HO_7.out))) (keep_size (w := w) (g := g) (row := none) (by repeat (first|(with_reducible first|exact HK.out|apply KeepBut.set_|apply keep_drewN|apply keep_drew|apply keep_alloc|refine keep_far ?_ GW289.out _)|exact HK.out))));have n3_ := Aside0.mk (KeepBut.trans (by repeat (first|(with_reducible first|exact HK.out|apply KeepBut.set_|apply keep_drewN|apply keep_drew|apply keep_alloc|refine keep_far ?_ GW289.out _)|exact HK.out)) hk (.inl rfl));have n4_ := Aside0.mk (hb);have n5_ := Aside0.mk (hi);clear HO_7;clear BK289;clear HK;clear HB;clear HI0;have HO_7 := n0_;have BK289 := n1_;have HO321 := n2_;have HK := n3_;have HB := n4_;have HI0 := n5_;clear n0_ n1_ n2_ n3_ n4_ n5_;(try clear hb);(try clear hb2);(try clear hk);(try clear hi);(try clear ho0);obtain ⟨Ao47,co47,eo47⟩ := Kd.R_slice HO321.out;subst eo47)|((with_reducible refine gate_builtin (b := .append) (xs := #[.tmp 49,.tmp 54]) rfl ?_);at_builtin;refine Kd.R_append_rows k46 w.heap.size rfl (.tmp 49) (.tmp 54) 33 46 (.agg #[(.int .i64 0),(.bool false),(.int .i64 0),(.int .i64 0)]) 32 rfl Try.underlying33 info46 rfl (by decide) (by omega) u7 x7_2 t319 _ _ _ (fun k_ => some k_ ≠ (.slice Ao47 t319.length co47 : Value).ownBlock) (fun _ => False) rfl rfl ?aO ?aR (fun _ _ h => h) (fun _ h => h.elim) ?aF (Below.refl _ _) ?aS ?aL ?_;(case aR => repeat (first|exact (Kd.R_reads' HO321.out).2.2|(with_reducible refine Kd.C_alloc ?_ _)|(with_reducible refine Kd.C_drewN ?_ _)|(with_reducible refine Kd.C_drew ?_)));(case aF => exact (fun k_ hk => Kd.fresh' (Kd.R_lt (by (with_reducible repeat (first|apply Kd.R_alloc|apply Kd.R_drewN|apply Kd.R_drew));exact HO321.out)) k_ hk));(case aO => exact (by (with_reducible repeat (first|apply Kd.R_alloc|apply Kd.R_drewN|apply Kd.R_drew));exact Kd.R_mono HO_7.out (fun _ hk => hk.2)));(case aS => exact (keep_size (w := w) (g := g) (row := none) (by repeat (first|(with_reducible first|exact HK.out|apply KeepBut.set_|apply keep_drewN|apply keep_drew|apply keep_alloc|refine keep_far ?_ GW289.out _)|exact HK.out))));(case aL => have := LMc42.out;omega);intro v324 w46 ho hb hg hat;rw [← Ny323.out] at ho;have n0_ := Aside0.mk (blk_grown (g := gb289) (o := .cells #[.slice A1_0 l1_0.length c1_0] 31 (0,0)) (by (with_reducible repeat (first|refine blk_drewN ?_ _|refine blk_drew ?_|refine blk_alloc ?_ _));exact BK289.out) hg (Kd.R_ne HO_7.out BK289.out (by decide)));have n1_ := Aside0.mk (IsS82.grown (by repeat (first|(with_reducible first|exact HI0.out|apply IsS82.alloc|apply IsS82.drewN|apply IsS82.drew|apply IsS82.set_1|refine IsS82.far ?_ NB0_289.out _)|exact HI0.out)) hg (IsS82.own_ne HI0.out HO_7.out (by decide)));have n2_ := Aside0.mk (Kd.R_after (ok := (fun _ => True)) (by (with_reducible repeat (first|apply Kd.R_alloc|apply Kd.R_drewN|apply Kd.R_drew));exact HO321.out) hg hat);have n3_ := Aside0.mk (below_weaken (by repeat (first|(with_reducible first|exact HB.out|apply below_alloc|apply pw_below_drewN|apply below_drew1|refine below_set ?_ (IsS82.ge HI0.out)|refine below_set ?_ GE289.out)|exact HB.out)) HL.out hb);have n4_ := Aside0.mk (KeepBut.trans (by repeat (first|(with_reducible first|exact HK.out|apply KeepBut.set_|apply keep_drewN|apply keep_drew|apply keep_alloc|refine keep_far ?_ GW289.out _)|exact HK.out)) (KeepBut.of_grown hg g) (Kd.R_base2 HO_7.out));have n5_ := Aside0.mk (ho);clear BK289;clear HI0;clear HO321;clear HB;clear HK;clear HO_7;have BK289 := n0_;have HI0 := n1_;have HO321 := n2_;have HB := n3_;have HK := n4_;have HO325 := n5_;clear n0_ n1_ n2_ n3_ n4_ n5_;clear ho hb hg hat))
        go_roundg k2
        case measure => have := HJ3.out;have := HK2.out;omega
        case rel => exact ⟨(y323),(wrap64 (x8_2 - 1)),(t322),(by first|rfl|(simp;done)|(simp [*];done)),H',⟨by have := HJ3.out;have := HK2.out;omega⟩,⟨by (with_reducible repeat (first|apply Kd.R_alloc|apply Kd.R_drewN|apply Kd.R_drew));exact Kd.R_mono HO325.out (fun _ hk => trivial)⟩,⟨by (with_reducible repeat (first|refine blk_drewN ?_ _|refine blk_drew ?_|refine blk_alloc ?_ _));exact BK289.out⟩,⟨by repeat (first|(with_reducible first|exact HI0.out|apply IsS82.alloc|apply IsS82.drewN|apply IsS82.drew|apply IsS82.set_1|refine IsS82.far ?_ NB0_289.out _)|exact HI0.out)⟩,⟨by repeat (first|(with_reducible first|exact HK.out|apply KeepBut.set_|apply keep_drewN|apply keep_drew|apply keep_alloc|refine keep_far ?_ GW289.out _)|exact HK.out)⟩,⟨by repeat (first|(with_reducible first|exact HB.out|apply below_alloc|apply pw_below_drewN|apply below_drew1|refine below_set ?_ (IsS82.ge HI0.out)|refine below_set ?_ GE289.out)|exact HB.out)⟩⟩
       ·rw [if_neg c42] at H
        exact absurd H (by simp)
      ·rw [if_neg c40] at H
       have c40b0 : decide (0 < x8_2) = false := decide_eq_false c40
       clear c40
       simp only [Option.some.injEq,Prod.mk.injEq] at H
       obtain ⟨rfl,rfl⟩ := H
       go_wp2
       go_ret
       exact ⟨_,by first|rfl|(simp [errW_none,errW_some] <;> rfl)|(simp [*,errW_none,errW_some] <;> rfl),by (with_reducible repeat (first|apply Kd.R_alloc|apply Kd.R_drewN|apply Kd.R_drew));exact HO_7.out,by repeat (first|(with_reducible first|exact HI0.out|apply IsS82.alloc|apply IsS82.drewN|apply IsS82.drew|apply IsS82.set_1|refine IsS82.far ?_ NB0_289.out _)|exact HI0.out),by repeat (first|(with_reducible first|exact HB.out|apply below_alloc|apply pw_below_drewN|apply below_drew1|refine below_set ?_ (IsS82.ge HI0.out)|refine below_set ?_ GE289.out)|exact HB.out),by repeat (first|(with_reducible first|exact HK.out|apply KeepBut.set_|apply keep_drewN|apply keep_drew|apply keep_alloc|refine keep_far ?_ GW289.out _)|exact HK.out)⟩
end Go.Proofs.Ytcbbflemaefeeaa.PT
