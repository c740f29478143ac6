/- Words and walks that the law's proof uses: each printed function's contract. Conditions: none beyond the statement's own. -/
import Derived.Test.YtimogbghkmhhgaaCFnFoldTracePYx0
import Derived.Test.YtimogbghkmhhgaaCFnFoldTracePYx2
import Derived.Test.YtimogbghkmhhgaaCFnFoldTracePYx3
namespace Go.Proofs.Ytimogbghkmhhgaa.PY
open Go.RowKit Go.Proofs.YtimogbghkmhhgaaW.PrintWords Go.Proofs.YtimogbghkmhhgaaW.PrintLast Go.Proofs.YtimogbghkmhhgaaW.PrintMore
attribute [local go_sem] max2_int min2_int max_two min_two max_three min_three max_four min_four   -- for this text's walks alone
set_option linter.unusedVariables false
set_option linter.unusedSimpArgs false
attribute [local go_sem high] eqA70
mutual
def spec_goodTrace.l0 : Nat → List (S34) → Int → List Int → Int → Option ((List (S34)) × Int)
  | 0, _, _, _, _ => none
  | k + 1, x3, x4, x1000, x1001 => if x4 > 0 then ((spec_aFrame.f k x1000 x1001).bind fun bt147 => ((spec_reader_one.f k x1000 bt147.2.2 (([1, 1, 2, 3] : List Int))).bind fun bt154 => (spec_goodTrace.l1 k x3 x4 bt154.1 x1000 bt154.2 bt147.1 bt147.2.1))) else (some (x3, x1001))
def spec_goodTrace.l1 : Nat → List (S34) → Int → Int → List Int → Int → ByteArray → Int → Option ((List (S34)) × Int)
  | 0, _, _, _, _, _, _, _ => none
  | k + 1, x3, x4, x6, x1000, x1001, x151000, x151001 => if x6 > 0 then (if (x3.length : Int) < 12 then (if x3.length < 5864062014805 then (spec_goodTrace.l1 k (x3 ++ [(⟨x151000, x151001⟩ : S34)]) x4 (wrap64 (x6 - 1)) x1000 x1001 x151000 x151001) else (none)) else (spec_goodTrace.l0 k x3 (wrap64 (x4 - 1)) x1000 x1001)) else (spec_goodTrace.l0 k x3 (wrap64 (x4 - 1)) x1000 x1001)
end
def spec_goodTrace.f (k : Nat) (s0_0 : List Int) (s0_1 : Int) : Option ((List (S34)) × Int) := (spec_reader_one.f k s0_0 s0_1 (([3, 4, 2, 5, 1, 0, 6] : List Int))).bind fun bt145 => (spec_goodTrace.l0 k (([] : List (S34))) bt145.1 s0_0 bt145.2)
set_option maxHeartbeats 8000000 in
set_option maxRecDepth 100000 in
theorem spec_goodTrace.calls (k : Nat) (g : Nat) (s0_0 : List Int) (s0_1 : Int) (r1 : List (S34)) (r2 : Int) (w0 w : World) (hI : IsS93 w0 w g s0_0 s0_1) (hB : Below w0.heap.size w0 w) (h : spec_goodTrace.f k s0_0 s0_1 = some (r1, r2)) :
    Calls Try.prog 53 #[.pointer (some ⟨g, 0, none⟩)] w fun e w' => ∃ v0_ : Value, e = .returned (v0_) ∧ Kd.R k34 34 w' w.heap.size (fun _ => True) v0_ r1 ∧ IsS93 w0 w' g s0_0 r2 ∧ Below w0.heap.size w0 w' ∧ KeepBut w w' g none := by
  have hu34 := Try.underlying34
  have HI0 := Aside0.mk hI
  have HK := Aside0.mk (KeepBut.refl w g none)
  have HL := Aside0.mk hB.size
  clear hI
  have HW0 := Aside0.mk hB.size
  have HB := Aside0.mk hB
  clear hB
  have H : ((spec_reader_one.f k s0_0 s0_1 (([3, 4, 2, 5, 1, 0, 6] : List Int))).bind fun bt145 => (spec_goodTrace.l0 k (([] : List (S34))) bt145.1 s0_0 bt145.2)) = some (r1, r2) := h
  clear h
  obtain ⟨y139, hy139⟩ : ∃ y_ : List (S34), y_ = (([] : List (S34))) := ⟨_, rfl⟩
  replace H : ((spec_reader_one.f k s0_0 s0_1 (([3, 4, 2, 5, 1, 0, 6] : List Int))).bind fun bt145 => (spec_goodTrace.l0 k y139 bt145.1 s0_0 bt145.2)) = some (r1, r2) := by first | (rw [hy139]; with_reducible exact H) | (have H2_ := (Option.bind_some _ _).symm.trans H; rw [hy139]; with_reducible exact H2_) | (have H2_ := (Option.bind_some _ _).symm.trans H; with_reducible exact H2_) | with_reducible exact H | (rw [hy139]; exact H) | exact H
  have Ny139 := Aside0.mk hy139
  clear hy139
  obtain ⟨y142, hy142⟩ : ∃ y_ : List Int, y_ = (([3, 4, 2, 5, 1, 0, 6] : List Int)) := ⟨_, rfl⟩
  replace H : ((spec_reader_one.f k s0_0 s0_1 y142).bind fun bt145 => (spec_goodTrace.l0 k y139 bt145.1 s0_0 bt145.2)) = some (r1, r2) := by first | (rw [hy142]; with_reducible exact H) | (have H2_ := (Option.bind_some _ _).symm.trans H; rw [hy142]; with_reducible exact H2_) | (have H2_ := (Option.bind_some _ _).symm.trans H; with_reducible exact H2_) | with_reducible exact H | (rw [hy142]; exact H) | exact H
  have Ny142 := Aside0.mk hy142
  clear hy142
  replace H := Option.bind_eq_some_iff.mp H
  obtain ⟨⟨t145, t146⟩, A20, H⟩ := H
  replace H : (spec_goodTrace.l0 k y139 t145 s0_0 t146) = some (r1, r2) := H
  have A2 := Aside0.mk A20
  clear A20
  have H' := Aside0.mk H
  clear H
  go_enter Try.func53, Try.ntmps53
  go_wp2_with (first | ((with_reducible refine gate_dst (N := 7) rfl ?_); (try (refine gate_guard (by rfl) ?_; dsimp only)); refine Kd.R_lit k34 _ 34 ?hg (N := 7) ?hd (xs := ([] : List (S34))) (inner := []) (ok := fun _ => True) (okp := fun _ => True) ?hr ?hp (fun _ hk => hk) trivial (Below.refl _ _) (Nat.le_refl _) (by simp) ?_; (case hd => rfl); (case hg => rfl); (case hr => first | (go_simp; done) | (go_simp; rfl)); (case hp => exact (Reps.none _ _)); intro v140 w3 ho4 hb hg_ hnew_; clear hg_ hnew_; (first | rw [← Ny139.out] at ho4 | (simp only [Int.reduceToNat] at ho4; rw [← Ny139.out] at ho4)); have n0_ := Aside0.mk (Kd.R_lower ho4 (keep_size (w := w) (g := g) (row := none) (by repeat (first | (with_reducible first | exact HK.out | apply KeepBut.set_ | apply keep_drewN | apply keep_drew | apply keep_alloc) | exact HK.out)))); have n1_ := Aside0.mk (IsS93.below (by repeat (first | (with_reducible first | exact HI0.out | apply IsS93.alloc | apply IsS93.drewN | apply IsS93.drew | apply IsS93.set_1) | exact HI0.out)) hb); have n2_ := Aside0.mk (KeepBut.trans (by repeat (first | (with_reducible first | exact HK.out | apply KeepBut.set_ | apply keep_drewN | apply keep_drew | apply keep_alloc) | exact HK.out)) (KeepBut.of_below hb g none) (.inl rfl)); have n3_ := Aside0.mk (below_step (by repeat (first | (with_reducible first | exact HB.out | apply below_alloc | apply pw_below_drewN | apply below_drew1 | refine below_set ?_ (IsS93.ge HI0.out)) | exact HB.out)) hb); clear HI0; clear HK; clear HB; have HO141 := n0_; have HI0 := n1_; have HK := n2_; have HB := n3_; clear n0_ n1_ n2_ n3_; clear hb ho4) | ((with_reducible refine gate_dst (N := 9) rfl ?_); (try (refine gate_guard (by rfl) ?_; dsimp only)); refine Kd.R_lit (Kd.int .i64) _ 3 ?hg (N := 9) ?hd (xs := ([3, 4, 2, 5, 1, 0, 6] : List Int)) (inner := [.int .i64 3, .int .i64 4, .int .i64 2, .int .i64 5, .int .i64 1, .int .i64 0, .int .i64 6]) (ok := fun _ => True) (okp := fun _ => True) ?hr ?hp (fun _ hk => hk) trivial (Below.refl _ _) (Nat.le_refl _) (by simp) ?_; (case hd => rfl); (case hg => rfl); (case hr => first | (go_simp; done) | (go_simp; rfl)); (case hp => exact (Reps.one (show Kd.M (Kd.int .i64) _ _ _ 3 [.int .i64 3] from rfl) (Reps.one (show Kd.M (Kd.int .i64) _ _ _ 4 [.int .i64 4] from rfl) (Reps.one (show Kd.M (Kd.int .i64) _ _ _ 2 [.int .i64 2] from rfl) (Reps.one (show Kd.M (Kd.int .i64) _ _ _ 5 [.int .i64 5] from rfl) (Reps.one (show Kd.M (Kd.int .i64) _ _ _ 1 [.int .i64 1] from rfl) (Reps.one (show Kd.M (Kd.int .i64) _ _ _ 0 [.int .i64 0] from rfl) (Reps.one (show Kd.M (Kd.int .i64) _ _ _ 6 [.int .i64 6] from rfl) (Reps.none _ _))))))))); intro v143 w5 ho6 hb hg_ hnew_; clear hg_ hnew_; (first | rw [← Ny142.out] at ho6 | (simp only [Int.reduceToNat] at ho6; rw [← Ny142.out] at ho6)); have n0_ := Aside0.mk (Kd.R_below (by (with_reducible repeat (first | apply Kd.R_alloc | apply Kd.R_drewN | apply Kd.R_drew)); exact HO141.out) hb); have n1_ := Aside0.mk (Kd.R_lower ho6 (keep_size (w := w) (g := g) (row := none) (by repeat (first | (with_reducible first | exact HK.out | apply KeepBut.set_ | apply keep_drewN | apply keep_drew | apply keep_alloc) | exact HK.out)))); have n2_ := Aside0.mk (IsS93.below (by repeat (first | (with_reducible first | exact HI0.out | apply IsS93.alloc | apply IsS93.drewN | apply IsS93.drew | apply IsS93.set_1) | exact HI0.out)) hb); have n3_ := Aside0.mk (KeepBut.trans (by repeat (first | (with_reducible first | exact HK.out | apply KeepBut.set_ | apply keep_drewN | apply keep_drew | apply keep_alloc) | exact HK.out)) (KeepBut.of_below hb g none) (.inl rfl)); have n4_ := Aside0.mk (below_step (by repeat (first | (with_reducible first | exact HB.out | apply below_alloc | apply pw_below_drewN | apply below_drew1 | refine below_set ?_ (IsS93.ge HI0.out)) | exact HB.out)) hb); clear HO141; clear HI0; clear HK; clear HB; have HO141 := n0_; have HO144 := n1_; have HI0 := n2_; have HK := n3_; have HB := n4_; clear n0_ n1_ n2_ n3_ n4_; clear hb ho6; obtain ⟨Ao7, co7, eo7⟩ := Kd.R_slice HO144.out; subst eo7) | ((with_reducible refine gate_callee (f := 55) rfl ?_); refine goesL_ (some 10) rfl rfl Try.func55 (by kernel_rfl) rfl #[.pointer (some ⟨g, 0, none⟩), .slice Ao7 y142.length co7] rfl (by (try simp only [List.map_toArray, List.map_cons, List.map_nil]); first | done | rfl | (simp only [List.length_drop, List.length_take]; rfl)) ?_; (with_reducible refine (spec_reader_one.calls k g s0_0 s0_1 _ _ y142 t145 t146 w0 _ ?side1 ?side2 ?side3 ?side4 ?side5 A2.out).mono ?_); (case side1 => repeat (first | (with_reducible first | exact HI0.out | apply IsS93.alloc | apply IsS93.drewN | apply IsS93.drew | apply IsS93.set_1) | exact HI0.out)); (case side2 => repeat (first | (with_reducible first | exact HB.out | apply below_alloc | apply pw_below_drewN | apply below_drew1 | refine below_set ?_ (IsS93.ge HI0.out)) | exact HB.out)); (case side3 => repeat (first | exact (Kd.R_reads' HO144.out).2.2 | (with_reducible refine Kd.C_alloc ?_ _) | (with_reducible refine Kd.C_drewN ?_ _) | (with_reducible refine Kd.C_drew ?_))); (case side4 => exact (Kd.R_reads' HO144.out).2.1); (case side5 => exact far_slice (IsS93.own_ne HI0.out HO144.out (by decide))); rintro e w8 ⟨rfl, hi, hb, hk⟩; refine ⟨_, rfl, ?_⟩; have n0_ := Aside0.mk (Kd.R_mono (Kd.R_keep (IsS93.apart (show IsS93 w0 _ g s0_0 s0_1 from by repeat (first | (with_reducible first | exact HI0.out | apply IsS93.alloc | apply IsS93.drewN | apply IsS93.drew | apply IsS93.set_1) | exact HI0.out)) (by (with_reducible repeat (first | apply Kd.R_alloc | apply Kd.R_drewN | apply Kd.R_drew)); exact HO141.out) (by decide)) hk (fun _ h => h.2)) (fun _ h => h.1)); have n1_ := Aside0.mk (Kd.R_mono (Kd.R_keep (IsS93.apart (show IsS93 w0 _ g s0_0 s0_1 from by repeat (first | (with_reducible first | exact HI0.out | apply IsS93.alloc | apply IsS93.drewN | apply IsS93.drew | apply IsS93.set_1) | exact HI0.out)) (by (with_reducible repeat (first | apply Kd.R_alloc | apply Kd.R_drewN | apply Kd.R_drew)); exact HO144.out) (by decide)) hk (fun _ h => h.2)) (fun _ h => h.1)); have n2_ := Aside0.mk (KeepBut.trans (by repeat (first | (with_reducible first | exact HK.out | apply KeepBut.set_ | apply keep_drewN | apply keep_drew | apply keep_alloc) | exact HK.out)) hk (.inl rfl)); have n3_ := Aside0.mk (hb); have n4_ := Aside0.mk (hi); clear HO141; clear HO144; clear HK; clear HB; clear HI0; have HO141 := n0_; have HO144 := n1_; have HK := n2_; have HB := n3_; have HI0 := n4_; clear n0_ n1_ n2_ n3_ n4_; (try clear hb); (try clear hb2); (try clear hk); (try clear hi)))
  go_loopg [3, 4] k (fun kq v3 v4 w' => ∃ (x3_1 : List (S34)) (x4_1 : Int) (x1001_1 : Int), v4 = .int .i64 x4_1 ∧ Aside0 (spec_goodTrace.l0 kq x3_1 x4_1 s0_0 x1001_1 = some (r1, r2)) ∧ Aside0 (kq ≤ k) ∧ Aside0 (Kd.R k34 34 w' w.heap.size (fun _ => True) v3 x3_1) ∧ Aside0 (IsS93 w0 w' g s0_0 x1001_1) ∧ Aside0 (KeepBut w w' g none) ∧ Aside0 (Below w0.heap.size w0 w'))
  case atStart => exact ⟨(y139), (t145), (t146), (by first | rfl | (simp; done) | (simp [*]; done)), H', ⟨Nat.le_refl _⟩, ⟨by (with_reducible repeat (first | apply Kd.R_alloc | apply Kd.R_drewN | apply Kd.R_drew)); exact HO141.out⟩, ⟨by repeat (first | (with_reducible first | exact HI0.out | apply IsS93.alloc | apply IsS93.drewN | apply IsS93.drew | apply IsS93.set_1) | exact HI0.out)⟩, ⟨by repeat (first | (with_reducible first | exact HK.out | apply KeepBut.set_ | apply keep_drewN | apply keep_drew | apply keep_alloc) | exact HK.out)⟩, ⟨by repeat (first | (with_reducible first | exact HB.out | apply below_alloc | apply pw_below_drewN | apply below_drew1 | refine below_set ?_ (IsS93.ge HI0.out)) | exact HB.out)⟩⟩
  case round =>
    clear H'
    try clear p2
    try clear c5
    obtain ⟨x3_1, x4_1, x1001_1, rfl, HA, HK1, HO_3, HI0, HK, HB⟩ := hrel
    cases gk with
    | zero => exact absurd HA.out (by simp [spec_goodTrace.l0])
    | succ k1 =>
      have H := HA.out
      clear HA
      simp only [spec_goodTrace.l0] at H
      by_cases c9 : x4_1 > 0
      · rw [if_pos c9] at H
        have c9b0 : decide (0 < x4_1) = true := decide_eq_true c9
        clear c9
        replace H := Option.bind_eq_some_iff.mp H
        obtain ⟨⟨t147, t148, t149⟩, A100, H⟩ := H
        replace H : ((spec_reader_one.f k1 s0_0 t149 (([1, 1, 2, 3] : List Int))).bind fun bt154 => (spec_goodTrace.l1 k1 x3_1 x4_1 bt154.1 s0_0 bt154.2 t147 t148)) = some (r1, r2) := H
        have A10 := Aside0.mk A100
        clear A100
        obtain ⟨y151, hy151⟩ : ∃ y_ : List Int, y_ = (([1, 1, 2, 3] : List Int)) := ⟨_, rfl⟩
        replace H : ((spec_reader_one.f k1 s0_0 t149 y151).bind fun bt154 => (spec_goodTrace.l1 k1 x3_1 x4_1 bt154.1 s0_0 bt154.2 t147 t148)) = some (r1, r2) := by first | (rw [hy151]; with_reducible exact H) | (have H2_ := (Option.bind_some _ _).symm.trans H; rw [hy151]; with_reducible exact H2_) | (have H2_ := (Option.bind_some _ _).symm.trans H; with_reducible exact H2_) | with_reducible exact H | (rw [hy151]; exact H) | exact H
        have Ny151 := Aside0.mk hy151
        clear hy151
        replace H := Option.bind_eq_some_iff.mp H
        obtain ⟨⟨t154, t155⟩, A110, H⟩ := H
        replace H : (spec_goodTrace.l1 k1 x3_1 x4_1 t154 s0_0 t155 t147 t148) = some (r1, r2) := H
        have A11 := Aside0.mk A110
        clear A110
        have H' := Aside0.mk H
        clear H
        go_wp2_with (first | ((with_reducible refine gate_callee (f := 66) rfl ?_); refine goesL_ (some 16) rfl rfl Try.func66 (by kernel_rfl) rfl #[.pointer (some ⟨g, 0, none⟩)] rfl (by (try simp only [List.map_toArray, List.map_cons, List.map_nil]); first | done | rfl | (simp only [List.length_drop, List.length_take]; rfl)) ?_; (with_reducible refine (spec_aFrame.calls k1 g s0_0 x1001_1 t147 t148 t149 w0 _ ?side1 ?side2 A10.out).mono ?_); (case side1 => repeat (first | (with_reducible first | exact HI0.out | apply IsS93.alloc | apply IsS93.drewN | apply IsS93.drew | apply IsS93.set_1) | exact HI0.out)); (case side2 => repeat (first | (with_reducible first | exact HB.out | apply below_alloc | apply pw_below_drewN | apply below_drew1 | refine below_set ?_ (IsS93.ge HI0.out)) | exact HB.out)); rintro e w12 ⟨rfl, hi, hb, hk⟩; refine ⟨_, rfl, ?_⟩; have n0_ := Aside0.mk (Kd.R_mono (Kd.R_keep (IsS93.apart (show IsS93 w0 _ g s0_0 x1001_1 from by repeat (first | (with_reducible first | exact HI0.out | apply IsS93.alloc | apply IsS93.drewN | apply IsS93.drew | apply IsS93.set_1) | exact HI0.out)) (by (with_reducible repeat (first | apply Kd.R_alloc | apply Kd.R_drewN | apply Kd.R_drew)); exact HO_3.out) (by decide)) hk (fun _ h => h.2)) (fun _ h => h.1)); have n1_ := Aside0.mk (KeepBut.trans (by repeat (first | (with_reducible first | exact HK.out | apply KeepBut.set_ | apply keep_drewN | apply keep_drew | apply keep_alloc) | exact HK.out)) hk (.inl rfl)); have n2_ := Aside0.mk (hb); have n3_ := Aside0.mk (hi); clear HO_3; clear HK; clear HB; clear HI0; have HO_3 := n0_; have HK := n1_; have HB := n2_; have HI0 := n3_; clear n0_ n1_ n2_ n3_; (try clear hb); (try clear hb2); (try clear hk); (try clear hi)) | ((with_reducible refine gate_dst (N := 5) rfl ?_); (try (refine gate_guard (by rfl) ?_; dsimp only)); refine box_event ?hg (N := 5) ?hd (cs := #[.string (⟨#[]⟩ : ByteArray), .int .i64 0]) (t := 34) ?hr ?_; (case hd => rfl); (case hg => rfl); (case hr => first | (go_simp; done) | (go_simp; rfl)); intro gb150 hg w13 hbox hb; have n0_ := Aside0.mk (Kd.R_below (Kd.R_elderB (by (with_reducible repeat (first | apply Kd.R_alloc | apply Kd.R_drewN | apply Kd.R_drew)); exact HO_3.out) gb150 (Nat.le_of_eq hg.symm)) hb); have n1_ := Aside0.mk (IsS93.below (by repeat (first | (with_reducible first | exact HI0.out | apply IsS93.alloc | apply IsS93.drewN | apply IsS93.drew | apply IsS93.set_1) | exact HI0.out)) hb); have n2_ := Aside0.mk (KeepBut.trans (by repeat (first | (with_reducible first | exact HK.out | apply KeepBut.set_ | apply keep_drewN | apply keep_drew | apply keep_alloc) | exact HK.out)) (KeepBut.of_below hb g none) (.inl rfl)); have n3_ := Aside0.mk (below_step (by repeat (first | (with_reducible first | exact HB.out | apply below_alloc | apply pw_below_drewN | apply below_drew1 | refine below_set ?_ (IsS93.ge HI0.out)) | exact HB.out)) hb); have n4_ := Aside0.mk (hbox); have n5_ := Aside0.mk ((by rw [hg]; exact (keep_size (w := w) (g := g) (row := none) (by repeat (first | (with_reducible first | exact HK.out | apply KeepBut.set_ | apply keep_drewN | apply keep_drew | apply keep_alloc) | exact HK.out))) : w.heap.size ≤ gb150)); have n6_ := Aside0.mk ((Nat.le_trans HW0.out (by rw [hg]; exact (keep_size (w := w) (g := g) (row := none) (by repeat (first | (with_reducible first | exact HK.out | apply KeepBut.set_ | apply keep_drewN | apply keep_drew | apply keep_alloc) | exact HK.out))) : w.heap.size ≤ gb150) : w0.heap.size ≤ gb150)); have n7_ := Aside0.mk ((by rw [hg]; exact Nat.ne_of_lt (IsS93.lt (show IsS93 w0 _ g s0_0 t149 from by repeat (first | (with_reducible first | exact HI0.out | apply IsS93.alloc | apply IsS93.drewN | apply IsS93.drew | apply IsS93.set_1) | exact HI0.out))) : g ≠ gb150)); have n8_ := Aside0.mk ((by rw [hg]; exact Nat.ne_of_gt (IsS93.lt (show IsS93 w0 _ g s0_0 t149 from by repeat (first | (with_reducible first | exact HI0.out | apply IsS93.alloc | apply IsS93.drewN | apply IsS93.drew | apply IsS93.set_1) | exact HI0.out))) : gb150 ≠ g)); clear HO_3; clear HI0; clear HK; clear HB; have HO_3 := n0_; have HI0 := n1_; have HK := n2_; have HB := n3_; have BK150 := n4_; have GW150 := n5_; have GE150 := n6_; have NB0_150 := n7_; have NB150_0 := n8_; clear n0_ n1_ n2_ n3_ n4_ n5_ n6_ n7_ n8_; clear hb hbox hg; have hnb14 := NB150_0.out; have hnc14 := NB0_150.out; have hcz15_0 : w13.cell? ⟨gb150, 0, none⟩ = some (.string (⟨#[]⟩ : ByteArray)) := (blk_cell BK150.out 0).trans rfl; have hcz15_1 : w13.cell? ⟨gb150, 1, none⟩ = some (.int .i64 0) := (blk_cell BK150.out 1).trans rfl; have hfz15_0 := blk_frozen BK150.out 0; have hfz15_1 := blk_frozen BK150.out 1) | ((with_reducible refine gate_dst (N := 18) rfl ?_); (try (refine gate_guard (by rfl) ?_; dsimp only)); refine Kd.R_lit (Kd.int .i64) _ 3 ?hg (N := 18) ?hd (xs := ([1, 1, 2, 3] : List Int)) (inner := [.int .i64 1, .int .i64 1, .int .i64 2, .int .i64 3]) (ok := fun _ => True) (okp := fun _ => True) ?hr ?hp (fun _ hk => hk) trivial (Below.refl _ _) (Nat.le_refl _) (by simp) ?_; (case hd => rfl); (case hg => rfl); (case hr => first | (go_simp; done) | (go_simp; rfl)); (case hp => exact (Reps.one (show Kd.M (Kd.int .i64) _ _ _ 1 [.int .i64 1] from rfl) (Reps.one (show Kd.M (Kd.int .i64) _ _ _ 1 [.int .i64 1] from rfl) (Reps.one (show Kd.M (Kd.int .i64) _ _ _ 2 [.int .i64 2] from rfl) (Reps.one (show Kd.M (Kd.int .i64) _ _ _ 3 [.int .i64 3] from rfl) (Reps.none _ _)))))); intro v152 w16 ho17 hb hg_ hnew_; clear hg_ hnew_; (first | rw [← Ny151.out] at ho17 | (simp only [Int.reduceToNat] at ho17; rw [← Ny151.out] at ho17)); have n0_ := Aside0.mk (Kd.R_below (by (with_reducible repeat (first | apply Kd.R_alloc | apply Kd.R_drewN | apply Kd.R_drew)); exact (Kd.R_mono (Kd.R_far (p := ⟨gb150, 1, none⟩) (Kd.R_far (p := ⟨gb150, 0, none⟩) (Kd.R_mono HO_3.out (fun k_ hk => (⟨hk, hk.2⟩ : _ ∧ k_ ≠ gb150))) (fun _ hk => hk.2) (.string t147)) (fun _ hk => hk.2) (.int .i64 t148)) (fun _ h_ => h_.1))) hb); have n1_ := Aside0.mk (Kd.R_lower ho17 (keep_size (w := w) (g := g) (row := none) (by repeat (first | (with_reducible first | exact HK.out | apply KeepBut.set_ | apply keep_drewN | apply keep_drew | apply keep_alloc | refine keep_far ?_ GW150.out _) | exact HK.out)))); have n2_ := Aside0.mk (IsS93.below (show IsS93 w0 ((w13.setCell ⟨gb150, 0, none⟩ (.string t147)).setCell ⟨gb150, 1, none⟩ (.int .i64 t148)) g s0_0 t149 from by repeat (first | (with_reducible first | exact HI0.out | apply IsS93.alloc | apply IsS93.drewN | apply IsS93.drew | apply IsS93.set_1 | refine IsS93.far ?_ NB0_150.out _) | exact HI0.out)) hb); have n3_ := Aside0.mk (blk_below (g := gb150) (o := .cells #[.string t147, .int .i64 t148] 34 (0, 0)) (by (with_reducible repeat (first | refine blk_drewN ?_ _ | refine blk_drew ?_ | refine blk_alloc ?_ _)); refine blk_put (cs := #[.string t147, .int .i64 0]) ?_ 1 _ rfl; (with_reducible repeat (first | refine blk_drewN ?_ _ | refine blk_drew ?_ | refine blk_alloc ?_ _)); refine blk_put (cs := #[.string (⟨#[]⟩ : ByteArray), .int .i64 0]) ?_ 0 _ rfl; (with_reducible repeat (first | refine blk_drewN ?_ _ | refine blk_drew ?_ | refine blk_alloc ?_ _)); exact BK150.out) hb); have n4_ := Aside0.mk (KeepBut.trans (by repeat (first | (with_reducible first | exact HK.out | apply KeepBut.set_ | apply keep_drewN | apply keep_drew | apply keep_alloc | refine keep_far ?_ GW150.out _) | exact HK.out)) (KeepBut.of_below hb g none) (.inl rfl)); have n5_ := Aside0.mk (below_step (by repeat (first | (with_reducible first | exact HB.out | apply below_alloc | apply pw_below_drewN | apply below_drew1 | refine below_set ?_ (IsS93.ge HI0.out) | refine below_set ?_ GE150.out) | exact HB.out)) hb); clear HO_3; clear HI0; clear BK150; clear HK; clear HB; have HO_3 := n0_; have HO153 := n1_; have HI0 := n2_; have BK150 := n3_; have HK := n4_; have HB := n5_; clear n0_ n1_ n2_ n3_ n4_ n5_; clear hb ho17; obtain ⟨Ao18, co18, eo18⟩ := Kd.R_slice HO153.out; subst eo18) | ((with_reducible refine gate_callee (f := 55) rfl ?_); refine goesL_ (some 19) rfl rfl Try.func55 (by kernel_rfl) rfl #[.pointer (some ⟨g, 0, none⟩), .slice Ao18 y151.length co18] rfl (by (try simp only [List.map_toArray, List.map_cons, List.map_nil]); first | done | rfl | (simp only [List.length_drop, List.length_take]; rfl)) ?_; (with_reducible refine (spec_reader_one.calls k1 g s0_0 t149 _ _ y151 t154 t155 w0 _ ?side1 ?side2 ?side3 ?side4 ?side5 A11.out).mono ?_); (case side1 => repeat (first | (with_reducible first | exact HI0.out | apply IsS93.alloc | apply IsS93.drewN | apply IsS93.drew | apply IsS93.set_1 | refine IsS93.far ?_ NB0_150.out _) | exact HI0.out)); (case side2 => repeat (first | (with_reducible first | exact HB.out | apply below_alloc | apply pw_below_drewN | apply below_drew1 | refine below_set ?_ (IsS93.ge HI0.out) | refine below_set ?_ GE150.out) | exact HB.out)); (case side3 => repeat (first | exact (Kd.R_reads' HO153.out).2.2 | (with_reducible refine Kd.C_alloc ?_ _) | (with_reducible refine Kd.C_drewN ?_ _) | (with_reducible refine Kd.C_drew ?_))); (case side4 => exact (Kd.R_reads' HO153.out).2.1); (case side5 => exact far_slice (IsS93.own_ne HI0.out HO153.out (by decide))); rintro e w19 ⟨rfl, hi, hb, hk⟩; refine ⟨_, rfl, ?_⟩; have n0_ := Aside0.mk (Kd.R_mono (Kd.R_keep (IsS93.apart (show IsS93 w0 _ g s0_0 t149 from by repeat (first | (with_reducible first | exact HI0.out | apply IsS93.alloc | apply IsS93.drewN | apply IsS93.drew | apply IsS93.set_1 | refine IsS93.far ?_ NB0_150.out _) | exact HI0.out)) (by (with_reducible repeat (first | apply Kd.R_alloc | apply Kd.R_drewN | apply Kd.R_drew)); exact HO_3.out) (by decide)) hk (fun _ h => h.2)) (fun _ h => h.1)); have n1_ := Aside0.mk (KeepBut.blk hk (g' := gb150) (o := .cells #[.string t147, .int .i64 t148] 34 (0, 0)) (by (with_reducible repeat (first | refine blk_drewN ?_ _ | refine blk_drew ?_ | refine blk_alloc ?_ _)); exact BK150.out) NB150_0.out (by simp)); have n2_ := Aside0.mk (Kd.R_mono (Kd.R_keep (IsS93.apart (show IsS93 w0 _ g s0_0 t149 from by repeat (first | (with_reducible first | exact HI0.out | apply IsS93.alloc | apply IsS93.drewN | apply IsS93.drew | apply IsS93.set_1 | refine IsS93.far ?_ NB0_150.out _) | exact HI0.out)) (by (with_reducible repeat (first | apply Kd.R_alloc | apply Kd.R_drewN | apply Kd.R_drew)); exact HO153.out) (by decide)) hk (fun _ h => h.2)) (fun _ h => h.1)); have n3_ := Aside0.mk (KeepBut.trans (by repeat (first | (with_reducible first | exact HK.out | apply KeepBut.set_ | apply keep_drewN | apply keep_drew | apply keep_alloc | refine keep_far ?_ GW150.out _) | exact HK.out)) hk (.inl rfl)); have n4_ := Aside0.mk (hb); have n5_ := Aside0.mk (hi); clear HO_3; clear BK150; clear HO153; clear HK; clear HB; clear HI0; have HO_3 := n0_; have BK150 := n1_; have HO153 := n2_; have HK := n3_; have HB := n4_; have HI0 := n5_; clear n0_ n1_ n2_ n3_ n4_ n5_; (try clear hb); (try clear hb2); (try clear hk); (try clear hi)))
        go_loopg [3, 6] k1 (fun kq v3 v6 w' => ∃ (x3_2 : List (S34)) (x6_2 : Int), v6 = .int .i64 x6_2 ∧ Aside0 (spec_goodTrace.l1 kq x3_2 x4_1 x6_2 s0_0 t155 t147 t148 = some (r1, r2)) ∧ Aside0 (kq ≤ k1) ∧ Aside0 (Kd.R k34 34 w' w.heap.size (fun k_ => k_ ≠ gb150) v3 x3_2) ∧ Aside0 (w'.heap[gb150]? = some (.cells #[.string t147, .int .i64 t148] 34 (0, 0))) ∧ Aside0 (IsS93 w0 w' g s0_0 t155) ∧ Aside0 (KeepBut w w' g none) ∧ Aside0 (Below w0.heap.size w0 w'))
        case atStart => exact ⟨(x3_1), (t154), (by first | rfl | (simp; done) | (simp [*]; done)), H', ⟨Nat.le_refl _⟩, ⟨by (with_reducible repeat (first | apply Kd.R_alloc | apply Kd.R_drewN | apply Kd.R_drew)); exact Kd.R_mono HO_3.out (fun _ hk => hk.2)⟩, ⟨by (with_reducible repeat (first | refine blk_drewN ?_ _ | refine blk_drew ?_ | refine blk_alloc ?_ _)); exact BK150.out⟩, ⟨by repeat (first | (with_reducible first | exact HI0.out | apply IsS93.alloc | apply IsS93.drewN | apply IsS93.drew | apply IsS93.set_1 | refine IsS93.far ?_ NB0_150.out _) | exact HI0.out)⟩, ⟨by repeat (first | (with_reducible first | exact HK.out | apply KeepBut.set_ | apply keep_drewN | apply keep_drew | apply keep_alloc | refine keep_far ?_ GW150.out _) | exact HK.out)⟩, ⟨by repeat (first | (with_reducible first | exact HB.out | apply below_alloc | apply pw_below_drewN | apply below_drew1 | refine below_set ?_ (IsS93.ge HI0.out) | refine below_set ?_ GE150.out) | exact HB.out)⟩⟩
        case round =>
          clear H'
          try clear c1
          try clear p2
          try clear c5
          try clear c6
          try clear c9
          try clear c9b0
          try clear c14
          try clear hcz15_0
          try clear hcz15_1
          try clear hfz15_0
          try clear hfz15_1
          try clear p2
          obtain ⟨x3_2, x6_2, rfl, HA, HK2, HO_3, BK150, HI0, HK, HB⟩ := hrel
          cases gk with
          | zero => exact absurd HA.out (by simp [spec_goodTrace.l1])
          | succ k2 =>
            have H := HA.out
            clear HA
            simp only [spec_goodTrace.l1] at H
            by_cases c20 : x6_2 > 0
            · rw [if_pos c20] at H
              have c20b0 : decide (0 < x6_2) = true := decide_eq_true c20
              clear c20
              by_cases c21 : (x3_2.length : Int) < 12
              · rw [if_pos c21] at H
                have c21b0 : decide ((x3_2.length : Int) < 12) = true := decide_eq_true c21
                have c21b1 : decide (x3_2.length < 12) = true := decide_eq_true (by omega)
                clear c21
                by_cases c22 : x3_2.length < 5864062014805
                · rw [if_pos c22] at H
                  have LMc22 := Aside0.mk c22
                  clear c22
                  obtain ⟨y156, hy156⟩ : ∃ y_ : List (S34), y_ = (x3_2 ++ [(⟨t147, t148⟩ : S34)]) := ⟨_, rfl⟩
                  replace H : (spec_goodTrace.l1 k2 y156 x4_1 (wrap64 (x6_2 - 1)) s0_0 t155 t147 t148) = some (r1, r2) := by first | (rw [hy156]; with_reducible exact H) | (have H2_ := (Option.bind_some _ _).symm.trans H; rw [hy156]; with_reducible exact H2_) | (have H2_ := (Option.bind_some _ _).symm.trans H; with_reducible exact H2_) | with_reducible exact H | (rw [hy156]; exact H) | exact H
                  have Ny156 := Aside0.mk hy156
                  clear hy156
                  have H' := Aside0.mk H
                  clear H
                  obtain ⟨Ao23, co23, eo23⟩ := Kd.R_slice HO_3.out
                  subst eo23
                  have hnb24 := NB150_0.out
                  have hnc24 := NB0_150.out
                  have hcz25_0 : wr.cell? ⟨gb150, 0, none⟩ = some (.string t147) := (blk_cell BK150.out 0).trans rfl
                  have hcz25_1 : wr.cell? ⟨gb150, 1, none⟩ = some (.int .i64 t148) := (blk_cell BK150.out 1).trans rfl
                  have hfz25_0 := blk_frozen BK150.out 0
                  have hfz25_1 := blk_frozen BK150.out 1
                  go_wp2_with (first | ((with_reducible refine gate_builtin (b := .append) (xs := #[.tmp 29, .tmp 31]) rfl ?_); (try (refine gate_guard (by rfl) ?_; dsimp only)); at_builtin; refine Kd.R_append k34 w.heap.size rfl (.tmp 29) (.tmp 31) 25 34 (.agg #[(.string ⟨#[]⟩), (.int .i64 0)]) 24 rfl Try.underlying25 info34 rfl (by decide) (by omega) (.slice Ao23 x3_2.length co23) x3_2 (⟨t147, t148⟩ : S34) [.string t147, .int .i64 t148] (fun k_ => k_ ≠ gb150) (fun _ => False) rfl rfl ?aP (fun _ hk => hk.elim) ?aF ?aO (Below.refl _ _) ?aS ?aL ?_; (case aP => exact k34_mkM _ _ _ (⟨t147, t148⟩ : S34)); (case aF => exact (fun k_ hk => Kd.freshB (g := gb150) (o := .cells #[.string t147, .int .i64 t148] 34 (0, 0)) (by (with_reducible repeat (first | refine blk_drewN ?_ _ | refine blk_drew ?_ | refine blk_alloc ?_ _)); exact BK150.out) k_ hk)); (case aO => exact (by (with_reducible repeat (first | apply Kd.R_alloc | apply Kd.R_drewN | apply Kd.R_drew)); exact HO_3.out)); (case aS => exact (keep_size (w := w) (g := g) (row := none) (by repeat (first | (with_reducible first | exact HK.out | apply KeepBut.set_ | apply keep_drewN | apply keep_drew | apply keep_alloc | refine keep_far ?_ GW150.out _) | exact HK.out)))); (case aL => have := LMc22.out; omega); intro v157 w26 ho hb hg hat; rw [← Ny156.out] at ho; have n0_ := Aside0.mk (blk_grown (g := gb150) (o := .cells #[.string t147, .int .i64 t148] 34 (0, 0)) (by (with_reducible repeat (first | refine blk_drewN ?_ _ | refine blk_drew ?_ | refine blk_alloc ?_ _)); exact BK150.out) hg (Kd.R_away HO_3.out (fun _ hk => hk))); have n1_ := Aside0.mk (IsS93.grown (by repeat (first | (with_reducible first | exact HI0.out | apply IsS93.alloc | apply IsS93.drewN | apply IsS93.drew | apply IsS93.set_1 | refine IsS93.far ?_ NB0_150.out _) | exact HI0.out)) hg (IsS93.own_ne HI0.out HO_3.out (by decide))); have n2_ := Aside0.mk (below_weaken (by repeat (first | (with_reducible first | exact HB.out | apply below_alloc | apply pw_below_drewN | apply below_drew1 | refine below_set ?_ (IsS93.ge HI0.out) | refine below_set ?_ GE150.out) | exact HB.out)) HL.out hb); have n3_ := Aside0.mk (KeepBut.trans (by repeat (first | (with_reducible first | exact HK.out | apply KeepBut.set_ | apply keep_drewN | apply keep_drew | apply keep_alloc | refine keep_far ?_ GW150.out _) | exact HK.out)) (KeepBut.of_grown hg g) (Kd.R_base2 HO_3.out)); have n4_ := Aside0.mk (ho); clear BK150; clear HI0; clear HB; clear HK; clear HO_3; have BK150 := n0_; have HI0 := n1_; have HB := n2_; have HK := n3_; have HO158 := n4_; clear n0_ n1_ n2_ n3_ n4_; clear ho hb hg hat))
                  go_roundg k2
                  case measure => have := HK1.out; have := HK2.out; omega
                  case rel => exact ⟨(y156), (wrap64 (x6_2 - 1)), (by first | rfl | (simp; done) | (simp [*]; done)), H', ⟨by have := HK1.out; have := HK2.out; omega⟩, ⟨by (with_reducible repeat (first | apply Kd.R_alloc | apply Kd.R_drewN | apply Kd.R_drew)); exact HO158.out⟩, ⟨by (with_reducible repeat (first | refine blk_drewN ?_ _ | refine blk_drew ?_ | refine blk_alloc ?_ _)); exact BK150.out⟩, ⟨by repeat (first | (with_reducible first | exact HI0.out | apply IsS93.alloc | apply IsS93.drewN | apply IsS93.drew | apply IsS93.set_1 | refine IsS93.far ?_ NB0_150.out _) | exact HI0.out)⟩, ⟨by repeat (first | (with_reducible first | exact HK.out | apply KeepBut.set_ | apply keep_drewN | apply keep_drew | apply keep_alloc | refine keep_far ?_ GW150.out _) | exact HK.out)⟩, ⟨by repeat (first | (with_reducible first | exact HB.out | apply below_alloc | apply pw_below_drewN | apply below_drew1 | refine below_set ?_ (IsS93.ge HI0.out) | refine below_set ?_ GE150.out) | exact HB.out)⟩⟩
                · rw [if_neg c22] at H
                  exact absurd H (by simp)
              · rw [if_neg c21] at H
                have c21b0 : decide ((x3_2.length : Int) < 12) = false := decide_eq_false c21
                have c21b1 : decide (x3_2.length < 12) = false := decide_eq_false (by omega)
                clear c21
                have H' := Aside0.mk H
                clear H
                obtain ⟨Ao27, co27, eo27⟩ := Kd.R_slice HO_3.out
                subst eo27
                go_wp2
                go_roundg k2
                case measure => have := HK1.out; have := HK2.out; omega
                case rel => exact ⟨(x3_2), (wrap64 (x4_1 - 1)), (t155), (by first | rfl | (simp; done) | (simp [*]; done)), H', ⟨by have := HK1.out; have := HK2.out; omega⟩, ⟨by (with_reducible repeat (first | apply Kd.R_alloc | apply Kd.R_drewN | apply Kd.R_drew)); exact Kd.R_mono HO_3.out (fun _ hk => trivial)⟩, ⟨by repeat (first | (with_reducible first | exact HI0.out | apply IsS93.alloc | apply IsS93.drewN | apply IsS93.drew | apply IsS93.set_1 | refine IsS93.far ?_ NB0_150.out _) | exact HI0.out)⟩, ⟨by repeat (first | (with_reducible first | exact HK.out | apply KeepBut.set_ | apply keep_drewN | apply keep_drew | apply keep_alloc | refine keep_far ?_ GW150.out _) | exact HK.out)⟩, ⟨by repeat (first | (with_reducible first | exact HB.out | apply below_alloc | apply pw_below_drewN | apply below_drew1 | refine below_set ?_ (IsS93.ge HI0.out) | refine below_set ?_ GE150.out) | exact HB.out)⟩⟩
            · rw [if_neg c20] at H
              have c20b0 : decide (0 < x6_2) = false := decide_eq_false c20
              clear c20
              have H' := Aside0.mk H
              clear H
              go_wp2
              go_roundg k2
              case measure => have := HK1.out; have := HK2.out; omega
              case rel => exact ⟨(x3_2), (wrap64 (x4_1 - 1)), (t155), (by first | rfl | (simp; done) | (simp [*]; done)), H', ⟨by have := HK1.out; have := HK2.out; omega⟩, ⟨by (with_reducible repeat (first | apply Kd.R_alloc | apply Kd.R_drewN | apply Kd.R_drew)); exact Kd.R_mono HO_3.out (fun _ hk => trivial)⟩, ⟨by repeat (first | (with_reducible first | exact HI0.out | apply IsS93.alloc | apply IsS93.drewN | apply IsS93.drew | apply IsS93.set_1 | refine IsS93.far ?_ NB0_150.out _) | exact HI0.out)⟩, ⟨by repeat (first | (with_reducible first | exact HK.out | apply KeepBut.set_ | apply keep_drewN | apply keep_drew | apply keep_alloc | refine keep_far ?_ GW150.out _) | exact HK.out)⟩, ⟨by repeat (first | (with_reducible first | exact HB.out | apply below_alloc | apply pw_below_drewN | apply below_drew1 | refine below_set ?_ (IsS93.ge HI0.out) | refine below_set ?_ GE150.out) | exact HB.out)⟩⟩
      · rw [if_neg c9] at H
        have c9b0 : decide (0 < x4_1) = false := decide_eq_false c9
        clear c9
        simp only [Option.some.injEq, Prod.mk.injEq] at H
        obtain ⟨rfl, rfl⟩ := H
        go_wp2
        go_ret
        exact ⟨_, by first | rfl | (simp [errW_none, errW_some] <;> rfl) | (simp [*, errW_none, errW_some] <;> rfl), by (with_reducible repeat (first | apply Kd.R_alloc | apply Kd.R_drewN | apply Kd.R_drew)); exact HO_3.out, by repeat (first | (with_reducible first | exact HI0.out | apply IsS93.alloc | apply IsS93.drewN | apply IsS93.drew | apply IsS93.set_1) | exact HI0.out), by repeat (first | (with_reducible first | exact HB.out | apply below_alloc | apply pw_below_drewN | apply below_drew1 | refine below_set ?_ (IsS93.ge HI0.out)) | exact HB.out), by repeat (first | (with_reducible first | exact HK.out | apply KeepBut.set_ | apply keep_drewN | apply keep_drew | apply keep_alloc) | exact HK.out)⟩
def impl_within.f (a0 : Int) (a1 : Int) (a2 : Int) : Option (Bool) := if a0 ≥ a1 then (some (decide (a0 ≤ a2))) else (some false)
set_option maxHeartbeats 8000000 in
set_option maxRecDepth 100000 in
theorem impl_within.calls (a0 : Int) (a1 : Int) (a2 : Int) (r : Bool) (w : World) (h : impl_within.f a0 a1 a2 = some r) :
    Calls Try.prog 56 #[.int .i64 a0, .int .i64 a1, .int .i64 a2] w fun e w' => e = .returned (.bool r) ∧ Drawn0 w w' := by
  have H : (if a0 ≥ a1 then (some (decide (a0 ≤ a2))) else (some false)) = some r := h
  clear h
  by_cases c4 : a0 ≥ a1
  · rw [if_pos c4] at H
    have c4b0 : decide (a1 ≤ a0) = true := decide_eq_true c4
    clear c4
    obtain rfl := Option.some.inj H
    go_enter Try.func56, Try.ntmps56
    go_wp2
    go_ret
    exact ⟨by first | rfl | (simp; done) | (simp [*]; done), by repeat (first | exact Drawn0.refl _ | apply Drawn0.step)⟩
  · rw [if_neg c4] at H
    have c4b0 : decide (a1 ≤ a0) = false := decide_eq_false c4
    clear c4
    obtain rfl := Option.some.inj H
    go_enter Try.func56, Try.ntmps56
    go_wp2
    go_ret
    exact ⟨by first | rfl | (simp; done) | (simp [*]; done), by repeat (first | exact Drawn0.refl _ | apply Drawn0.step)⟩
def idxO {α : Type} (p : α → Option Bool) : List α → Int → Option Int
  | [], _ => some (-1)
  | x :: xs, i => (p x).bind fun b => if b = true then some i else idxO p xs (i + 1)
theorem idxO_at {α : Type} (p : α → Option Bool) (l : List α) (i : Nat) (z : α) (j : Int) (h : i < l.length) : idxO p (l.drop i) j = (p (l.getD i z)).bind fun b => if b = true then some j else idxO p (l.drop (i + 1)) (j + 1) := by
  rw [List.drop_eq_getElem_cons h]
  simp only [idxO]
  rw [List.getD_eq_getElem?_getD, List.getElem?_eq_getElem h]
  rfl
set_option maxHeartbeats 8000000 in
set_option maxRecDepth 100000 in
theorem bits_Mul64.calls (c : Nat) (hc : 1 ≤ c ∧ c ≤ 12) (w : World) :
    Calls Try.prog 91 #[.int .u64 1, .int .u64 c] w fun e w' => e = .returned (.tuple #[.int .u64 0, .int .u64 c]) ∧ w' = w := by
  have h : c = 1 ∨ c = 2 ∨ c = 3 ∨ c = 4 ∨ c = 5 ∨ c = 6 ∨ c = 7 ∨ c = 8 ∨ c = 9 ∨ c = 10 ∨ c = 11 ∨ c = 12 := by omega
  clear hc
  rcases h with h | h | h | h | h | h | h | h | h | h | h | h <;> subst h
  all_goals
    go_enter Try.func91, Try.ntmps91
    go_wp2
    go_ret2
    exact ⟨by first | rfl | kernel_rfl, rfl⟩
set_option maxHeartbeats 8000000 in
set_option maxRecDepth 100000 in
theorem bits_Mul.calls (c : Nat) (hc : 1 ≤ c ∧ c ≤ 12) (w : World) :
    Calls Try.prog 84 #[.int .u64 1, .int .u64 c] w fun e w' => e = .returned (.tuple #[.int .u64 0, .int .u64 c]) ∧ w' = w := by
  have HC := Aside0.mk hc
  clear hc
  go_enter Try.func84, Try.ntmps84
  go_wp2_with (go_at_call 91; refine (bits_Mul64.calls c HC.out _).mono ?_; rintro e w1 ⟨rfl, rfl⟩)
  go_ret2
  exact ⟨rfl, rfl⟩
theorem run_copy_wide {P : Program} (w : World) (dT sT ty elem : TypeId) (b o dLen dCap : Nat) (a : Addr) (sLen sCap sz : Nat) (cs : List Value)
    (hu : P.underlying dT = some (.slice elem)) (hs : (P.info? elem).map (·.size) = some sz) (hn : cs.length = Nat.min sLen dLen * sz)
    (hsrc : ∀ j v, cs[j]? = some v → w.cell? (a.add j) = some v) (hc : ∀ j, j < cs.length → (w.cell? ⟨b, o + j, none⟩).isSome = true) (hf : ∀ j, j < cs.length → w.frozen? ⟨b, o + j, none⟩ = false) (h1 : ∀ v ∈ cs, v.oneCell' = true) :
    (Builtin.copy_ #[dT, sT] ty #[.slice (some ⟨b, o, none⟩) dLen dCap, .slice (some a) sLen sCap]).run P w = .ok (goInt (Nat.min sLen dLen : Nat)) (w.setCells b o cs) := by
  have hl := run_loadCells_list (P := P) w a cs hsrc
  have hst := run_storeCells_cells (P := P) b o cs 0 w (by simpa using hc) (by simpa using hf) h1
  cases hq : P.info? elem with
  | none => simp [hq] at hs
  | some i =>
    have hi : i.size = sz := by simpa [hq] using hs
    simp [Builtin.copy_, run_underlying hu, Builtin.lenOf, Builtin.firstCells, sizeOf, typeInfo, hq, hi, ← hn, hl, hst]
theorem below_setsR {w : World} {g : Nat} : ∀ (vs : List Value) (o : Nat) {W : World}, Below w.heap.size w W → w.heap.size ≤ g → Below w.heap.size w (W.setCells g o vs)
  | [], _, _, h, _ => h
  | v :: r, o, W, h, hg => below_setsR r (o + 1) (below_set h hg) hg
def flat (c1 c2 : Value) : Nat → List Value
  | 0 => []
  | m + 1 => c1 :: c2 :: flat c1 c2 m
theorem flat_length (c1 c2 : Value) : ∀ m, (flat c1 c2 m).length = m * 2
  | 0 => rfl
  | m + 1 => by simp only [flat, List.length_cons, flat_length c1 c2 m]; omega
theorem flat_get (c1 c2 : Value) : ∀ m j v, (flat c1 c2 m)[j]? = some v → j < m * 2 ∧ v = if j % 2 = 0 then c1 else c2
  | 0, j, v, h => by simp [flat] at h
  | m + 1, 0, v, h => by simp [flat] at h; exact ⟨by omega, by simp [h]⟩
  | m + 1, 1, v, h => by simp [flat] at h; exact ⟨by omega, by simp [h]⟩
  | m + 1, j + 2, v, h => by
    simp only [flat, List.getElem?_cons_succ] at h
    obtain ⟨h1, h2⟩ := flat_get c1 c2 m j v h
    exact ⟨by omega, by rw [h2]; simp⟩
theorem R_fill {base go co n : Nat} {ok : Nat → Prop} (x0 : (S34)) : ∀ (m j : Nat) (W : World) (xs : List (S34)), Kd.R k34 34 W base ok (.slice (some ⟨go, 0, none⟩) n co) xs → j + m ≤ n →
    ∃ ys, Kd.R k34 34 (W.setCells go (j * 2) (flat (.string x0.f0) (.int .i64 x0.f1) m)) base ok (.slice (some ⟨go, 0, none⟩) n co) ys ∧ ys.take (j + m) = xs.take j ++ List.replicate m x0
  | 0, j, W, xs, h, _ => ⟨xs, h, by simp⟩
  | m + 1, j, W, xs, h, hj => by
    have hn := (Kd.R_reads' h).1
    obtain ⟨ce, hcl, hM, hcc, hfr⟩ := Kd.R_elem h z34 (j : Int) (by omega) (by omega)
    obtain rfl := k34_openM hM
    have h1 := (Kd.R_seg h (j : Int) (by omega) (by omega) (seg := [.string x0.f0, .int .i64 x0.f1]) (j := 0) hcl hcc (show 2 ≤ 2 from by decide) (x' := x0) (k34_mkM _ _ (fun _ => False) x0) (fun _ hk => hk.elim)).1
    rw [Int.toNat_natCast] at h1
    obtain ⟨ys, h2, h3⟩ := R_fill x0 m (j + 1) _ _ h1 (by omega)
    refine ⟨ys, ?_, ?_⟩
    · rw [show (j + 1) * 2 = j * 2 + 1 + 1 by omega] at h2
      exact h2
    · rw [show j + (m + 1) = j + 1 + m by omega, h3, List.take_add_one, List.getElem?_set_self (by omega), List.take_set_of_le (Nat.le_refl _)]
      simp [List.replicate_succ]
theorem R_cells {W : World} {base go co n : Nat} {ok : Nat → Prop} {xs : List (S34)} (h : Kd.R k34 34 W base ok (.slice (some ⟨go, 0, none⟩) n co) xs) : ∀ q, q < n * 2 → (W.cell? ⟨go, q, none⟩).isSome = true ∧ W.frozen? ⟨go, q, none⟩ = false := fun q hq => by
  have hn := (Kd.R_reads' h).1
  obtain ⟨ce, hcl, hM, hcc, hfr⟩ := Kd.R_elem h z34 ((q / 2 : Nat) : Int) (by omega) (by omega)
  obtain rfl := k34_openM hM
  have e : ((q / 2 : Nat) : Int).toNat * k34.sz + q % 2 = q := by rw [show k34.sz = 2 from rfl]; omega
  refine ⟨?_, by rw [← e]; exact hfr _⟩
  have hq2 : q % 2 = 0 ∨ q % 2 = 1 := by omega
  rcases hq2 with hq2 | hq2 <;> rw [← e, hq2]
  · rw [hcc 0 _ rfl]; rfl
  · rw [hcc 1 _ rfl]; rfl
theorem R_flat {W : World} {base go co n m : Nat} {ok : Nat → Prop} {xs : List (S34)} {x0 : (S34)} (h : Kd.R k34 34 W base ok (.slice (some ⟨go, 0, none⟩) n co) xs) (hm : m ≤ n) (hx : xs.take m = List.replicate m x0) :
    ∀ j v, (flat (.string x0.f0) (.int .i64 x0.f1) m)[j]? = some v → W.cell? ((⟨go, 0, none⟩ : Addr).add j) = some v := fun j v hv => by
  obtain ⟨h1, h2⟩ := flat_get _ _ _ _ _ hv
  have hn := (Kd.R_reads' h).1
  obtain ⟨ce, hcl, hM, hcc, hfr⟩ := Kd.R_elem h z34 ((j / 2 : Nat) : Int) (by omega) (by omega)
  obtain rfl := k34_openM hM
  have e0 : xs.getD ((j / 2 : Nat) : Int).toNat z34 = x0 := by
    rw [Int.toNat_natCast, List.getD_eq_getElem?_getD]
    have h5 : (xs.take m)[j / 2]? = some x0 := by rw [hx, List.getElem?_replicate, if_pos (by omega)]
    rw [List.getElem?_take, if_pos (by omega)] at h5
    rw [h5]; rfl
  rw [e0] at hcc
  have e : ((j / 2 : Nat) : Int).toNat * k34.sz + j % 2 = j := by rw [show k34.sz = 2 from rfl]; omega
  have ea : (⟨go, 0, none⟩ : Addr).add j = ⟨go, j, none⟩ := by simp [Addr.add] <;> omega
  rw [ea, h2]
  have hj2 : j % 2 = 0 ∨ j % 2 = 1 := by omega
  rcases hj2 with hj2 | hj2 <;> rw [hj2] at e <;> rw [hj2]
  · rw [← e]; exact hcc 0 _ rfl
  · rw [← e]; exact hcc 1 _ rfl
set_option maxHeartbeats 8000000 in
set_option maxRecDepth 100000 in
theorem impl_Frame_57.one (m : Nat) (hm : 1 ≤ m ∧ m ≤ 12) (A0 : Option Addr) (c0 : Nat) (x0 : (S34)) (w : World) (hr0 : Kd.C k34 w A0 1 [x0]) (hc0 : 1 ≤ c0) :
    Calls Try.prog 57 #[.slice A0 1 c0, .int .i64 (m : Int)] w fun e w' => ∃ v, e = .returned v ∧ Kd.R k34 34 w' w.heap.size (fun _ => True) v (List.replicate m x0) ∧ Below w.heap.size w w' := by
  have hu34 := Try.underlying34
  have HM := Aside0.mk hm
  have HR := Aside0.mk hr0
  have HC := Aside0.mk hc0
  have c1b0 : decide ((m : Int) < 0) = false := decide_eq_false (by omega)
  have hwu : IntKind.u64.wrap (m : Int) = (m : Int) := by
    obtain ⟨h1, h2⟩ := hm
    simp [IntKind.wrap, IntKind.signed, IntKind.bits]
    omega
  have hwi : IntKind.i64.wrap (m : Int) = (m : Int) := by rw [i64_w]; unfold wrap64; omega
  have c2b0 : decide ((m : Int) > 9223372036854775807) = false := decide_eq_false (by omega)
  obtain ⟨ad, ce, ead, _, hK, hcx⟩ := Kd.C_get hr0 z34 0 (by omega) (by simp)
  subst ead
  obtain rfl := k34_open hK
  have HX := Aside0.mk (show ∀ j v, ([.string x0.f0, .int .i64 x0.f1] : List Value)[j]? = some v → w.cell? (ad.add j) = some v from fun j v hv => by have := hcx j v hv; simpa using this)
  clear hcx hK hr0 hc0 hm
  go_enter Try.func57, Try.ntmps57
  go_wp2_with (first | (go_at_call 84; refine (bits_Mul.calls m HM.out _).mono ?_; rintro e w1 ⟨rfl, rfl⟩) | ((with_reducible refine gate_dst (N := 30) rfl ?_); refine Kd.R_make k34 _ 34 rfl (N := 30) rfl 25 _ _ rfl (m : Int) rfl rfl Try.underlying25 ((.agg #[(.string ⟨#[]⟩), (.int .i64 0)])) 24 info34 rfl (by decide) (by omega) z34 (ok := fun _ => True) (okp := fun _ => True) (k34_mkM _ _ _ z34) (fun _ hk => hk) trivial (by have := HM.out; omega) (by have := HM.out; omega) (Below.refl _ _) (Nat.le_refl _) ?_; intro v w4 ho hb hg_ hnew_; go_loud (rw [Int.toNat_natCast] at ho; obtain ⟨go, co, ev, gb, gl, cl, hgg⟩ := Kd.R_form ho (by have := HM.out; simp; omega); rw [List.length_replicate] at ev; subst ev; obtain ⟨ys, hR, hT⟩ := R_fill x0 1 0 w4 _ ho (by have := HM.out; omega); rw [Nat.zero_mul] at hR; have hcell := R_cells ho; have hmin : Nat.min 1 m = 1 := Nat.min_eq_left HM.out.1; have hcp := run_copy_wide (P := Try.prog) w4 25 25 3 34 go 0 m co ad 1 c0 2 (flat (.string x0.f0) (.int .i64 x0.f1) 1) Try.underlying25 (by kernel_rfl) (by rw [hmin]; rfl) (fun j v hv => (hb.cell (World.block_lt_of_cell? _ _ (HX.out j v hv))).trans (HX.out j v hv)) (fun j hj => by rw [Nat.zero_add]; rw [flat_length] at hj; exact (hcell j (by have := HM.out; omega)).1) (fun j hj => by rw [Nat.zero_add]; rw [flat_length] at hj; exact (hcell j (by have := HM.out; omega)).2) (by simp [flat, Value.oneCell']); rw [hmin] at hcp; have HO := Aside0.mk hR; have HT := Aside0.mk hT; have GE := Aside0.mk gb; have HB := Aside0.mk (below_setsR (flat (.string x0.f0) (.int .i64 x0.f1) 1) 0 hb gb); clear hcell hR hT gb gl hgg hmin hb ho hg_ hnew_)))
  go_loopg [8] m (fun gg v8 w' => ∃ (k : Nat) (xs : List (S34)), v8 = .int .i64 k ∧ Aside0 (1 ≤ k ∧ k ≤ m) ∧ Aside0 (m - k ≤ gg) ∧ Aside0 (xs.take k = List.replicate k x0) ∧ Aside0 (Kd.R k34 34 w' w1.heap.size (fun _ => True) (.slice (some ⟨go, 0, none⟩) m co) xs) ∧ Aside0 (Below w1.heap.size w1 w'))
  case atStart => exact ⟨1, ys, rfl, ⟨by have := HM.out; omega⟩, ⟨by omega⟩, ⟨by rw [show (0 + 1 : Nat) = 1 from rfl] at HT; rw [HT.out]; rfl⟩, HO, HB⟩
  case round =>
    clear HO HB HT
    obtain ⟨k, xs, rfl, HI, HG, HT, HO, HB⟩ := hrel
    have hco := (Kd.R_reads' HO.out).2.1
    have HXL := Aside0.mk (Kd.R_reads' HO.out).1
    obtain ⟨i1, i2⟩ := HI.out
    have hm2 := HM.out.2
    by_cases hlt : k < m
    · have c5b0 : decide ((k : Int) < (m : Int)) = true := decide_eq_true (by omega)
      have c5b1 : decide (k < m) = true := decide_eq_true hlt
      obtain ⟨q, hq⟩ : ∃ q : Nat, Nat.min k (m - k) = q := ⟨_, rfl⟩
      have hq1 : 1 ≤ q ∧ q ≤ k ∧ q ≤ m - k := by rw [← hq]; exact ⟨Nat.le_min.2 ⟨by omega, by omega⟩, Nat.min_le_left _ _, Nat.min_le_right _ _⟩
      obtain ⟨i0, hi0, hz0, hsz, _⟩ := info_parts info34
      have hcut2 := cut_to (P := Try.prog) 25 34 .i64 Try.underlying25 hi0 (some ⟨go, 0, none⟩) m co (k : Int) (by omega) (by omega) hco
      have hcut1 := cut_from (P := Try.prog) 25 34 .i64 Try.underlying25 hi0 2 hsz (some ⟨go, 0, none⟩) m co (k : Int) (by omega) (by omega)
      rw [Int.toNat_natCast] at hcut1 hcut2
      rw [if_neg (by omega), show (some (⟨go, 0, none⟩ : Addr)).map (·.add (k * 2)) = some ⟨go, k * 2, none⟩ by (simp [Addr.add] <;> omega)] at hcut1
      have HD := Aside0.mk (Kd.R_drew HO.out)
      have hcell := R_cells HD.out
      have hTq : xs.take q = List.replicate q x0 := by
        have := congrArg (List.take q) HT.out
        rwa [List.take_take, Nat.min_eq_left hq1.2.1, List.take_replicate, Nat.min_eq_left hq1.2.1] at this
      obtain ⟨ys, hR, hY⟩ := R_fill x0 q k wr.drew _ HD.out (by omega)
      have hcp := run_copy_wide (P := Try.prog) wr.drew 25 25 3 34 go (k * 2) (m - k) (co - k) ⟨go, 0, none⟩ k co 2 (flat (.string x0.f0) (.int .i64 x0.f1) q) Try.underlying25 (by kernel_rfl) (by rw [hq, flat_length]) (R_flat HD.out (by omega) hTq) (fun j hj => by rw [flat_length] at hj; exact (hcell (k * 2 + j) (by omega)).1) (fun j hj => by rw [flat_length] at hj; exact (hcell (k * 2 + j) (by omega)).2) (fun v hv => by
        obtain ⟨j, hj, rfl⟩ := List.getElem_of_mem hv
        obtain ⟨_, h2⟩ := flat_get _ _ _ _ _ (List.getElem?_eq_getElem hj)
        rw [h2]; split <;> rfl)
      rw [hq] at hcp
      have hw : wrap64 ((k : Int) + (q : Int)) = ((k + q : Nat) : Int) := by unfold wrap64; omega
      have HB2 := Aside0.mk (below_setsR (flat (.string x0.f0) (.int .i64 x0.f1) q) (k * 2) (below_drew HB.out) GE.out)
      have HR2 := Aside0.mk hR
      have HY := Aside0.mk hY
      have HQ := Aside0.mk hq1
      clear hcell hTq hR hY hq hq1 hz0 hsz hi0
      go_wp2
      go_region
      go_wp2
      go_roundg (m - (k + q))
      case measure => have := HG.out; have := HQ.out; omega
      case rel => exact ⟨k + q, ys, (by rw [hw]), ⟨by have := HQ.out; omega⟩, ⟨by omega⟩, ⟨by rw [HY.out, HT.out, List.replicate_append_replicate]⟩, HR2, HB2⟩
    · have c5b0 : decide ((k : Int) < (m : Int)) = false := decide_eq_false (by omega)
      have c5b1 : decide (k < m) = false := decide_eq_false hlt
      have hkm : k = m := by omega
      subst hkm
      have hxs : xs = List.replicate k x0 := by rw [← HT.out, List.take_of_length_le (by have := HXL.out; omega)]
      have HXS := Aside0.mk hxs
      clear hxs
      go_wp2
      go_ret
      exact ⟨_, rfl, by rw [← HXS.out]; exact HO.out, HB.out⟩
def impl_Frame_57.f (l0 : List (S34)) (a1 : Int) : Option (List (S34)) := if l0.length = 1 ∧ 1 ≤ a1 ∧ a1 ≤ 12 then some (List.replicate a1.toNat (l0.getD 0 z34)) else none
set_option maxHeartbeats 8000000 in
set_option maxRecDepth 100000 in
theorem impl_Frame_57.calls (A0 : Option Addr) (c0 : Nat) (l0 : List (S34)) (a1 : Int) (r : List (S34)) (w : World) (hr0 : Kd.C k34 w A0 l0.length l0) (hc0 : l0.length ≤ c0) (h : impl_Frame_57.f l0 a1 = some r) :
    Calls Try.prog 57 #[.slice A0 l0.length c0, .int .i64 a1] w fun e w' => ∃ v0_ : Value, e = .returned (v0_) ∧ Kd.R k34 34 w' w.heap.size (fun _ => True) v0_ r ∧ Below w.heap.size w w' := by
  unfold impl_Frame_57.f at h
  by_cases c : l0.length = 1 ∧ 1 ≤ a1 ∧ a1 ≤ 12
  · rw [if_pos c] at h
    obtain rfl := Option.some.inj h
    obtain ⟨x0, rfl⟩ := List.length_eq_one_iff.1 c.1
    obtain ⟨m, rfl⟩ : ∃ m : Nat, a1 = (m : Int) := ⟨a1.toNat, by omega⟩
    rw [Int.toNat_natCast]
    exact impl_Frame_57.one m (by omega) A0 c0 x0 w hr0 hc0
  · rw [if_neg c] at h
    cases h
def impl_Row_58.l0 : Nat → List (S70) → List (S70) → Int → Int → Option (Bool)
  | 0, _, _, _, _ => none
  | k + 1, x0, x1, x12, x13 => if x13 < x12 then (if 0 ≤ x13 then (if x13 < (x0.length : Int) then (if x13 < (x1.length : Int) then (if ((!((((rd_T70 x0 x13).f0.f0).toList) == (((rd_T70 x1 x13).f0.f0).toList)) || (!(((rd_T70 x0 x13).f0.f1) == ((rd_T70 x1 x13).f0.f1)))) || (!(((rd_T70 x0 x13).f1) == ((rd_T70 x1 x13).f1)))) = true then (some false) else (impl_Row_58.l0 k x0 x1 x12 (wrap64 (x13 + 1)))) else (none)) else (none)) else (none)) else (some true)
def impl_Row_58.f (k : Nat) (l0 : List (S70)) (l1 : List (S70)) : Option (Bool) := if (l0.length : Int) = (l1.length : Int) then (impl_Row_58.l0 k l0 l1 (l0.length : Int) 0) else (some false)
set_option maxHeartbeats 8000000 in
set_option maxRecDepth 100000 in
theorem impl_Row_58.calls (k : Nat) (A0 : Option Addr) (c0 : Nat) (l0 : List (S70)) (A1 : Option Addr) (c1 : Nat) (l1 : List (S70)) (r : Bool) (w : World) (hr0 : Kd.C k70 w A0 l0.length l0) (hc0 : l0.length ≤ c0) (hr1 : Kd.C k70 w A1 l1.length l1) (hc1 : l1.length ≤ c1) (h : impl_Row_58.f k l0 l1 = some r) :
    Calls Try.prog 58 #[.slice A0 l0.length c0, .slice A1 l1.length c1] w fun e w' => e = .returned (.bool r) ∧ Drawn0 w w' := by
  have hu70 := Try.underlying70
  have HR0 := Aside0.mk hr0
  have HC0 := Aside0.mk hc0
  clear hr0 hc0
  have HR1 := Aside0.mk hr1
  have HC1 := Aside0.mk hc1
  clear hr1 hc1
  have H : (if (l0.length : Int) = (l1.length : Int) then (impl_Row_58.l0 k l0 l1 (l0.length : Int) 0) else (some false)) = some r := h
  clear h
  by_cases c3 : (l0.length : Int) = (l1.length : Int)
  · rw [if_pos c3] at H
    have c3b0 : ((l0.length : Int) == (l1.length : Int)) = true := beq_iff_eq.mpr c3
    have c3b1 : ((l0.length : Int) != (l1.length : Int)) = false := bne_eq_false_iff_eq.mpr c3
    have c3b2 : (l0.length == l1.length) = true := by first | simpa using c3 | (simp at c3 ⊢; omega)
    clear c3
    have H' := Aside0.mk H
    clear H
    go_enter Try.func58, Try.ntmps58
    go_wp2
    repeat (go_quiet (fail); try go_wp2)
    go_loopg [13] k (fun kq v13 w' => ∃ (x13_1 : Int), v13 = .int .i64 x13_1 ∧ Aside0 (impl_Row_58.l0 kq l0 l1 (l0.length : Int) x13_1 = some r) ∧ Aside0 (kq ≤ k) ∧ Drawn0 w w')
    case atStart => exact ⟨(0), (by first | rfl | (simp; done) | (simp [*]; done)), H', ⟨Nat.le_refl _⟩, by repeat (first | exact Drawn0.refl _ | apply Drawn0.step)⟩
    case round =>
      clear H'
      try clear c1
      try clear p2
      try clear c3
      try clear c3b0
      try clear c3b1
      try clear c3b2
      obtain ⟨x13_1, rfl, HA, HK1, ⟨m1, rfl⟩⟩ := hrel
      cases gk with
      | zero => exact absurd HA.out (by simp [impl_Row_58.l0])
      | succ k1 =>
        have H := HA.out
        clear HA
        simp only [impl_Row_58.l0] at H
        by_cases c4 : x13_1 < (l0.length : Int)
        · rw [if_pos c4] at H
          have c4b0 : decide (x13_1 < (l0.length : Int)) = true := decide_eq_true c4
          clear c4
          by_cases c5 : 0 ≤ x13_1
          · rw [if_pos c5] at H
            have c5b0 : decide (0 ≤ x13_1) = true := decide_eq_true c5
            clear c5
            by_cases c6 : x13_1 < (l0.length : Int)
            · rw [if_pos c6] at H
              have c6b0 : decide (x13_1 < (l0.length : Int)) = true := decide_eq_true c6
              clear c6
              by_cases c7 : x13_1 < (l1.length : Int)
              · rw [if_pos c7] at H
                have c7b0 : decide (x13_1 < (l1.length : Int)) = true := decide_eq_true c7
                clear c7
                by_cases c8 : ((!((((rd_T70 l0 x13_1).f0.f0).toList) == (((rd_T70 l1 x13_1).f0.f0).toList)) || (!(((rd_T70 l0 x13_1).f0.f1) == ((rd_T70 l1 x13_1).f0.f1)))) || (!(((rd_T70 l0 x13_1).f1) == ((rd_T70 l1 x13_1).f1)))) = true
                · rw [if_pos c8] at H
                  have c8b0 : ((!((((rd_T70 l0 x13_1).f0.f0).toList) == (((rd_T70 l1 x13_1).f0.f0).toList)) || (!(((rd_T70 l0 x13_1).f0.f1) == ((rd_T70 l1 x13_1).f0.f1)))) || (!(((rd_T70 l0 x13_1).f1) == ((rd_T70 l1 x13_1).f1)))) = true := c8
                  clear c8
                  obtain rfl := Option.some.inj H
                  have p181 : 0 ≤ (x13_1 : Int) := of_decide_eq_true (by first | (with_reducible assumption) | assumption)
                  have q181 : x13_1 < (l0.length : Int) := of_decide_eq_true (by first | (with_reducible assumption) | assumption)
                  obtain ⟨ad181, e181, hx181_0, hx181_1, hx181_2⟩ := at_T70 HR0.out x13_1 p181 q181
                  cases e181
                  replace p181 := eq_true p181
                  replace q181 := eq_true q181
                  have p182 : 0 ≤ (x13_1 : Int) := of_decide_eq_true (by first | (with_reducible assumption) | assumption)
                  have q182 : x13_1 < (l1.length : Int) := of_decide_eq_true (by first | (with_reducible assumption) | assumption)
                  obtain ⟨ad182, e182, hx182_0, hx182_1, hx182_2⟩ := at_T70 HR1.out x13_1 p182 q182
                  cases e182
                  replace p182 := eq_true p182
                  replace q182 := eq_true q182
                  go_wp2
                  repeat (go_quiet (fail); try go_wp2)
                  go_ret
                  exact ⟨by first | rfl | (simp; done) | (simp [*]; done), by repeat (first | exact Drawn0.refl _ | apply Drawn0.step)⟩
                · rw [if_neg c8] at H
                  have c8b0 : ((!((((rd_T70 l0 x13_1).f0.f0).toList) == (((rd_T70 l1 x13_1).f0.f0).toList)) || (!(((rd_T70 l0 x13_1).f0.f1) == ((rd_T70 l1 x13_1).f0.f1)))) || (!(((rd_T70 l0 x13_1).f1) == ((rd_T70 l1 x13_1).f1)))) = false := by simpa using c8
                  clear c8
                  have H' := Aside0.mk H
                  clear H
                  have p181 : 0 ≤ (x13_1 : Int) := of_decide_eq_true (by first | (with_reducible assumption) | assumption)
                  have q181 : x13_1 < (l0.length : Int) := of_decide_eq_true (by first | (with_reducible assumption) | assumption)
                  obtain ⟨ad181, e181, hx181_0, hx181_1, hx181_2⟩ := at_T70 HR0.out x13_1 p181 q181
                  cases e181
                  replace p181 := eq_true p181
                  replace q181 := eq_true q181
                  have p182 : 0 ≤ (x13_1 : Int) := of_decide_eq_true (by first | (with_reducible assumption) | assumption)
                  have q182 : x13_1 < (l1.length : Int) := of_decide_eq_true (by first | (with_reducible assumption) | assumption)
                  obtain ⟨ad182, e182, hx182_0, hx182_1, hx182_2⟩ := at_T70 HR1.out x13_1 p182 q182
                  cases e182
                  replace p182 := eq_true p182
                  replace q182 := eq_true q182
                  go_wp2
                  repeat (go_quiet (fail); try go_wp2)
                  go_roundg k1
                  case measure => have := HK1.out; omega
                  case rel => exact ⟨(wrap64 (x13_1 + 1)), (by first | rfl | (simp; done) | (simp [*]; done)), H', ⟨by have := HK1.out; omega⟩, by repeat (first | exact Drawn0.refl _ | apply Drawn0.step)⟩
              · rw [if_neg c7] at H
                exact absurd H (by simp)
            · rw [if_neg c6] at H
              exact absurd H (by simp)
          · rw [if_neg c5] at H
            exact absurd H (by simp)
        · rw [if_neg c4] at H
          have c4b0 : decide (x13_1 < (l0.length : Int)) = false := decide_eq_false c4
          clear c4
          obtain rfl := Option.some.inj H
          go_wp2
          repeat (go_quiet (fail); try go_wp2)
          go_ret
          exact ⟨by first | rfl | (simp; done) | (simp [*]; done), by repeat (first | exact Drawn0.refl _ | apply Drawn0.step)⟩
  · rw [if_neg c3] at H
    have c3b0 : ((l0.length : Int) == (l1.length : Int)) = false := beq_eq_false_iff_ne.mpr c3
    have c3b1 : ((l0.length : Int) != (l1.length : Int)) = true := bne_iff_ne.mpr c3
    have c3b2 : (l0.length == l1.length) = false := by first | simpa using c3 | (simp at c3 ⊢; omega)
    obtain rfl := Option.some.inj H
    go_enter Try.func58, Try.ntmps58
    go_wp2
    repeat (go_quiet (fail); try go_wp2)
    go_ret
    exact ⟨by first | rfl | (simp; done) | (simp [*]; done), by repeat (first | exact Drawn0.refl _ | apply Drawn0.step)⟩
def impl_Row_85.f (l0 : List (S70)) : Option ((List (S70))) := some l0
set_option maxHeartbeats 8000000 in
set_option maxRecDepth 100000 in
theorem impl_Row_85.calls (P0_ : Nat → Prop) (u9000_ : Value) (l0 : List (S70)) (r : List (S70)) (w0 w : World) (hB : Below w0.heap.size w0 w) (ho0 : Kd.R k70 70 w w0.heap.size P0_ u9000_ l0) (h : impl_Row_85.f l0 = some r) :
    Calls Try.prog 85 #[u9000_] w fun e w' => ∃ v0_ : Value, e = .returned (v0_) ∧ Kd.R k70 70 w' w0.heap.size (fun k_ => (P0_ k_ ∨ w.heap.size ≤ k_)) v0_ r ∧ Below w0.heap.size w0 w' ∧ Kept w w' (fun k_ => P0_ k_) := by
  have HO0 := Aside0.mk (show Kd.R k70 70 w w0.heap.size (fun k_ => (P0_ k_ ∨ w.heap.size ≤ k_)) u9000_ l0 from Kd.R_mono ho0 (fun k_ hk => (.inl hk)))
  have HK := Aside0.mk (Kept.refl w (fun k_ => P0_ k_))
  have HW0 := Aside0.mk hB.size
  have HB := Aside0.mk hB
  clear hB
  have H : (some l0) = some r := h
  clear h
  obtain rfl := Option.some.inj H
  obtain ⟨Ao2, co2, eo2⟩ := Kd.R_slice HO0.out
  subst eo2
  obtain ⟨i03, hi03, _, hsz3, _⟩ := info_parts info70
  have hl3 := (Kd.R_reads' HO0.out).1
  have hc3 := (Kd.R_reads' HO0.out).2.1
  have hcut3 := cut_clip (P := Try.prog) 23 70 .i64 .i64 Try.underlying23 hi03 Ao2 l0.length co2 l0.length (by omega) (by omega)
  have hr3 := Kd.R_clip (c' := l0.length) HO0.out (by omega) (by omega)
  clear hl3 hc3 hi03 hsz3 HO0
  have HO184 := Aside0.mk hr3
  clear hr3
  go_enter Try.func85, Try.ntmps85
  go_wp2
  go_ret
  exact ⟨_, by first | rfl | (simp [errW_none, errW_some] <;> rfl) | (simp [*, errW_none, errW_some] <;> rfl), by (with_reducible repeat (first | apply Kd.R_alloc | apply Kd.R_drewN | apply Kd.R_drew)); exact HO184.out, by repeat (first | (with_reducible first | exact HB.out | apply below_alloc | apply pw_below_drewN | apply below_drew1) | exact HB.out), by repeat (first | (with_reducible first | exact HK.out | apply Kept.alloc | apply Kept.drewN | apply Kept.drew) | exact HK.out)⟩
end Go.Proofs.Ytimogbghkmhhgaa.PY
