/- Words and walks that the law's proof uses: each printed function's contract. Conditions: none beyond the statement's own. -/
import Derived.Test.YtoahlfggbeijpaaCFnCommonHeadPTx0
import Derived.Test.YtoahlfggbeijpaaCFnCommonHeadPTx1
import Derived.Test.YtoahlfggbeijpaaCFnCommonHeadPTx2
import Derived.Test.YtoahlfggbeijpaaCFnCommonHeadPTx3
import Derived.Test.YtoahlfggbeijpaaCFnCommonHeadPTx4
import Derived.Test.YtoahlfggbeijpaaCFnCommonHeadPTx5
namespace Go.Proofs.Ytoahlfggbeijpaa.PT
open Go.RowKit Go.Proofs.YtoahlfggbeijpaaW.PrintWords Go.Proofs.YtoahlfggbeijpaaW.PrintLast Go.Proofs.YtoahlfggbeijpaaW.PrintMore
attribute [local go_sem] max2_int min2_int max_two min_two max_three min_three max_four min_four   -- for this text's walks alone
set_option linter.unusedVariables false
set_option linter.unusedSimpArgs false
attribute [local go_sem high] eqA48
def impl_Frame_57.f (l0 : List (S48)) : Option (List (S48)) := if l0.length < 5864062014805 then some l0 else none
set_option maxHeartbeats 8000000 in
set_option maxRecDepth 100000 in
theorem impl_Frame_57.calls (A0 : Option Addr) (c0 : Nat) (l0 r : List (S48)) (w : World) (hr0 : Kd.C k48 w A0 l0.length l0) (hc0 : l0.length ≤ c0) (h : impl_Frame_57.f l0 = some r) :
    Calls Try.prog 57 #[.slice A0 l0.length c0] w fun e w' => ∃ v0_ : Value, e = .returned (v0_) ∧ Kd.R k48 48 w' w.heap.size (fun _ => True) v0_ r ∧ Below w.heap.size w w' := by
  unfold impl_Frame_57.f at h
  by_cases c2 : l0.length < 5864062014805
  · rw [if_pos c2] at h
    obtain rfl := Option.some.inj h
    clear h
    have LMc2 := Aside0.mk c2
    clear c2
    have HR0 := Aside0.mk hr0
    have HC0 := Aside0.mk hc0
    clear hr0 hc0
    have HB := Aside0.mk (Below.refl w.heap.size w)
    have hq := fun (W : World) => Lib.run_eql_slice_nil (P := Try.prog) W 25 48 A0 l0.length c0 0 0 Try.underlying25
    cases A0 with
    | none =>
      obtain rfl : l0 = [] := by
        cases l0 with
        | nil => rfl
        | cons x xs =>
          obtain ⟨ad, hh, _⟩ := HR0.out.2.2 (by simp)
          cases hh
      clear hq
      have hq := fun (W : World) => Lib.run_eql_slice_nil (P := Try.prog) W 25 48 none 0 c0 0 0 Try.underlying25
      show Calls Try.prog 57 #[.slice none 0 c0] w _
      go_enter Try.func57, Try.ntmps57
      go_wp2
      go_ret
      exact ⟨_, rfl, Kd.R_nil _ _ _ _ _, Below.refl _ _⟩
    | some ad =>
      go_enter Try.func57, Try.ntmps57
      go_wp2_with (first | ((with_reducible refine gate_dst (N := 5) rfl ?_); refine Kd.R_lit k48 _ 48 ?hg (N := 5) ?hd (xs := ([] : List (S48))) (inner := []) (ok := fun _ => True) (okp := fun _ => True) ?hr ?hp (fun _ hk => hk) trivial (Below.refl _ _) (Nat.le_refl _) (by simp) ?_; (case hd => rfl); (case hg => rfl); (case hr => first | (go_simp; done) | (go_simp; rfl)); (case hp => exact (Reps.none _ _)); intro v185 w3 ho4 hb hg_ hnew_; clear hg_ hnew_; have n0_ := Aside0.mk (Kd.R_lower ho4 (below_size HB.out)); have n1_ := Aside0.mk (below_step HB.out hb); clear HB; have HO186 := n0_; have HB := n1_; clear n0_ n1_; clear hb ho4) | ((with_reducible refine gate_builtin (b := .append) (xs := #[.tmp 5, .tmp 6]) rfl ?_); at_builtin; refine Kd.R_append_rows k48 (w0 := w) w.heap.size rfl (.tmp 5) (.tmp 6) 25 48 (.agg #[(.string ⟨#[]⟩), (.int .i64 0)]) 24 rfl Try.underlying25 info48 rfl (by decide) (by omega) v185 [] l0 _ _ _ (fun _ => True) (fun _ => False) rfl rfl ?aO ?aR (fun _ _ h => h) (fun _ h => h.elim) ?aF ?aB ?aS ?aL ?_; (case aR => exact (Kd.C_below HR0.out HB.out)); (case aB => exact HB.out); (case aF => exact (fun _ _ => trivial)); (case aO => exact HO186.out); (case aS => exact (below_size HB.out)); (case aL => have := LMc2.out; simp; omega); intro v237 w5 ho hb hg hat; rw [List.nil_append] at ho; have n0_ := Aside0.mk (hb); have n1_ := Aside0.mk (ho); clear HB; clear HO186; have HB := n0_; have HO189 := n1_; clear n0_ n1_; clear ho hb hg hat))
      go_ret
      exact ⟨_, rfl, HO189.out, HB.out⟩
  · rw [if_neg c2] at h
    cases h
def impl_TrimTrace.g (a1 : Int) (r : List (S48)) : List (S48) := if 0 ≤ a1 then (if (r.length : Int) < a1 then r else r.take a1.toNat) else (if -(r.length : Int) < a1 then r.drop ((r.length : Int) + a1).toNat else r)
def impl_TrimTrace.f (k : Nat) (l0 : List (S48)) (a1 : Int) : Option (List (S48)) := (impl_ValidTrace.f k l0).bind fun v => if v = true then ((impl_Frame_57.f l0).bind fun r => some (impl_TrimTrace.g a1 r)) else some []
set_option maxHeartbeats 8000000 in
set_option maxRecDepth 100000 in
theorem impl_TrimTrace.clip (A0 : Option Addr) (n c : Nat) (hc : n ≤ c) (w : World) :
    Calls Try.prog 58 #[.slice A0 n c] w fun e w' => e = .returned (.slice A0 n n) ∧ w' = w := by
  obtain ⟨i0, hi0, _, hsz, _⟩ := info_parts info48
  have hcut := cut_clip (P := Try.prog) 25 48 .i64 .i64 Try.underlying25 hi0 A0 n c n rfl hc
  clear hi0 hsz
  go_enter Try.func58, Try.ntmps58
  go_wp2
  go_ret
  exact ⟨rfl, rfl⟩
set_option maxHeartbeats 8000000 in
set_option maxRecDepth 100000 in
theorem impl_TrimTrace.calls (k : Nat) (A0 : Option Addr) (c0 : Nat) (l0 : List (S48)) (a1 : Int) (r : List (S48)) (w : World) (hr0 : Kd.C k48 w A0 l0.length l0) (hc0 : l0.length ≤ c0) (h : impl_TrimTrace.f k l0 a1 = some r) :
    Calls Try.prog 24 #[.slice A0 l0.length c0, .int .i64 a1] w fun e w' => ∃ v0_ : Value, e = .returned (v0_) ∧ Kd.Q k48 48 w' w.heap.size (fun _ => True) v0_ r ∧ Below w.heap.size w w' := by
  have HR0 := Aside0.mk hr0
  have HC0 := Aside0.mk hc0
  have hmx := hr0.2.1
  clear hr0 hc0
  obtain ⟨v, h1, h2⟩ := Option.bind_eq_some_iff.mp h
  clear h
  have H1 := Aside0.mk h1
  clear h1
  cases v with
  | false =>
    obtain rfl := Option.some.inj h2
    clear h2
    go_enter Try.func24, Try.ntmps24
    go_wp2_with (go_at_call 18; refine (impl_ValidTrace.calls k A0 c0 l0 false _ HR0.out HC0.out H1.out).mono ?_; rintro e w' ⟨rfl, hb⟩)
    go_ret
    exact ⟨_, rfl, Kd.Q_nil _ _ _ _ _, hb⟩
  | true =>
   rw [if_pos rfl] at h2
   obtain ⟨t, h3, h4⟩ := Option.bind_eq_some_iff.mp h2
   have htl : t = l0 := by
     unfold impl_Frame_57.f at h3
     by_cases q : l0.length < 5864062014805
     · rw [if_pos q] at h3
       exact (Option.some.inj h3).symm
     · rw [if_neg q] at h3
       cases h3
   obtain rfl := Option.some.inj h4
   have H3 := Aside0.mk h3
   clear h2 h3 h4
   have htm : (t.length : Int) ≤ 9223372036854775807 := by rw [htl]; omega
   clear htl
   have hng : (wrap64 (-(t.length : Int))) = -(t.length : Int) := by unfold wrap64; omega
   unfold impl_TrimTrace.g
   by_cases c2 : 0 ≤ a1
   · rw [if_pos c2]
     have c2b0 : decide (0 ≤ a1) = true := decide_eq_true c2
     by_cases c3 : (t.length : Int) < a1
     · rw [if_pos c3]
       have c3b0 : decide ((t.length : Int) < a1) = true := decide_eq_true c3
       have c3i := eq_true c3
       clear c2 c3 hng

       skip
       go_enter Try.func24, Try.ntmps24
       go_wp2_with (first | (go_at_call 18; refine (impl_ValidTrace.calls k A0 c0 l0 true _ HR0.out HC0.out H1.out).mono ?_; rintro e w1 ⟨rfl, hb⟩; have HB1 := Aside0.mk hb; clear hb) | (go_at_call 57; refine (impl_Frame_57.calls A0 c0 l0 t _ (Kd.C_below HR0.out HB1.out) HC0.out H3.out).mono ?_; rintro e w2 ⟨v0, rfl, ho, hb2⟩; have HB2 := Aside0.mk (below_step HB1.out hb2); have HO := Aside0.mk (Kd.Q_lower (Kd.Q_of_R ho) (below_size HB1.out)); clear hb2 ho; obtain ⟨Ao, co, eo, hle⟩ := Kd.Q_slice HO.out; subst eo; have HLE := Aside0.mk hle; clear hle; obtain ⟨i0, hi0, _, hsz, _⟩ := info_parts info48; have hcut := cut_to (P := Try.prog) 25 48 .i64 Try.underlying25 hi0 Ao t.length co (t.length : Int) (Int.natCast_nonneg _) (Int.le_refl _) HLE.out; rw [Int.toNat_natCast] at hcut; clear hi0 hsz) | (go_at_call 58; refine (impl_TrimTrace.clip _ _ _ HLE.out _).mono ?_; rintro e w3 ⟨rfl, rfl⟩))
       go_ret
       exact ⟨_, rfl, Kd.Q_clip HO.out (Nat.le_refl _) HLE.out, HB2.out⟩

     · rw [if_neg c3]
       have c3b0 : decide ((t.length : Int) < a1) = false := decide_eq_false c3
       have c3i := eq_false c3
       have H5 := Aside0.mk (show a1 ≤ (t.length : Int) by omega)
       have H6 := Aside0.mk c2
       clear c2 c3 hng

       skip
       go_enter Try.func24, Try.ntmps24
       go_wp2_with (first | (go_at_call 18; refine (impl_ValidTrace.calls k A0 c0 l0 true _ HR0.out HC0.out H1.out).mono ?_; rintro e w1 ⟨rfl, hb⟩; have HB1 := Aside0.mk hb; clear hb) | (go_at_call 57; refine (impl_Frame_57.calls A0 c0 l0 t _ (Kd.C_below HR0.out HB1.out) HC0.out H3.out).mono ?_; rintro e w2 ⟨v0, rfl, ho, hb2⟩; have HB2 := Aside0.mk (below_step HB1.out hb2); have HO := Aside0.mk (Kd.Q_lower (Kd.Q_of_R ho) (below_size HB1.out)); clear hb2 ho; obtain ⟨Ao, co, eo, hle⟩ := Kd.Q_slice HO.out; subst eo; have HLE := Aside0.mk hle; clear hle; obtain ⟨i0, hi0, _, hsz, _⟩ := info_parts info48; have hcut := cut_to (P := Try.prog) 25 48 .i64 Try.underlying25 hi0 Ao t.length co a1 H6.out H5.out HLE.out; clear hi0 hsz; have HO2 := Aside0.mk (Kd.Q_take (m := a1.toNat) HO.out (by have := H5.out; omega))) | (go_at_call 58; refine (impl_TrimTrace.clip _ _ _ (by have := HLE.out; have := H5.out; omega) _).mono ?_; rintro e w3 ⟨rfl, rfl⟩))
       go_ret
       exact ⟨_, rfl, by have hl_ : (t.take a1.toNat).length = a1.toNat := (by have := H5.out; rw [List.length_take]; omega); have hq_ := HO2.out; exact Kd.Q_clip hq_ (Nat.le_of_eq hl_) (by have := HLE.out; have := H5.out; omega), HB2.out⟩

   · rw [if_neg c2]
     have c2b0 : decide (0 ≤ a1) = false := decide_eq_false c2
     by_cases c3 : -(t.length : Int) < a1
     · rw [if_pos c3]
       have c3b0 : decide (wrap64 (-(t.length : Int)) < a1) = true := decide_eq_true (by rw [hng]; exact c3)
       have c3b1 : decide (-(t.length : Int) < a1) = true := decide_eq_true c3
       obtain ⟨J, hJ⟩ : ∃ J : Int, (t.length : Int) + a1 = J := ⟨_, rfl⟩
       have hJw : IntKind.i64.wrap ((t.length : Int) + a1) = J := by rw [i64_w, ← hJ]; unfold wrap64; omega
       rw [hJ]
       have H5 := Aside0.mk (show 0 ≤ J ∧ J ≤ (t.length : Int) by omega)
       clear c2 c3 hng hJ

       skip
       go_enter Try.func24, Try.ntmps24
       go_wp2_with (first | (go_at_call 18; refine (impl_ValidTrace.calls k A0 c0 l0 true _ HR0.out HC0.out H1.out).mono ?_; rintro e w1 ⟨rfl, hb⟩; have HB1 := Aside0.mk hb; clear hb) | (go_at_call 57; refine (impl_Frame_57.calls A0 c0 l0 t _ (Kd.C_below HR0.out HB1.out) HC0.out H3.out).mono ?_; rintro e w2 ⟨v0, rfl, ho, hb2⟩; have HB2 := Aside0.mk (below_step HB1.out hb2); have HO := Aside0.mk (Kd.Q_lower (Kd.Q_of_R ho) (below_size HB1.out)); clear hb2 ho; obtain ⟨Ao, co, eo, hle⟩ := Kd.Q_slice HO.out; subst eo; have HLE := Aside0.mk hle; clear hle; obtain ⟨i0, hi0, _, hsz, _⟩ := info_parts info48; have hcut := cut_from (P := Try.prog) 25 48 .i64 Try.underlying25 hi0 2 hsz Ao t.length co J H5.out.1 H5.out.2; clear hi0 hsz; have hq2 : Kd.Q k48 48 w2 w.heap.size (fun _ => True) (.slice (if co = J.toNat then Ao else Option.map (fun x => x.add (J.toNat * 2)) Ao) (t.length - J.toNat) (co - J.toNat)) (t.drop J.toNat) := Kd.Q_drop (k := J.toNat) HO.out (by have := H5.out; omega); obtain ⟨Aj, hAj⟩ : ∃ Aj : Option Addr, (if co = J.toNat then Ao else Option.map (fun x => x.add (J.toNat * 2)) Ao) = Aj := ⟨_, rfl⟩; rw [hAj] at hcut hq2; have HO2 := Aside0.mk hq2; clear hq2 hAj) | (go_at_call 58; refine (impl_TrimTrace.clip _ _ _ (by have := HLE.out; have := H5.out; omega) _).mono ?_; rintro e w3 ⟨rfl, rfl⟩))
       go_ret
       exact ⟨_, rfl, by have hl_ : (t.drop J.toNat).length = t.length - J.toNat := (by rw [List.length_drop]); have hq_ := HO2.out; exact Kd.Q_clip hq_ (Nat.le_of_eq hl_) (by have := HLE.out; have := H5.out; omega), HB2.out⟩

     · rw [if_neg c3]
       have c3b0 : decide (wrap64 (-(t.length : Int)) < a1) = false := decide_eq_false (by rw [hng]; exact c3)
       have c3b1 : decide (-(t.length : Int) < a1) = false := decide_eq_false c3
       clear c2 c3 hng

       skip
       go_enter Try.func24, Try.ntmps24
       go_wp2_with (first | (go_at_call 18; refine (impl_ValidTrace.calls k A0 c0 l0 true _ HR0.out HC0.out H1.out).mono ?_; rintro e w1 ⟨rfl, hb⟩; have HB1 := Aside0.mk hb; clear hb) | (go_at_call 57; refine (impl_Frame_57.calls A0 c0 l0 t _ (Kd.C_below HR0.out HB1.out) HC0.out H3.out).mono ?_; rintro e w2 ⟨v0, rfl, ho, hb2⟩; have HB2 := Aside0.mk (below_step HB1.out hb2); have HO := Aside0.mk (Kd.Q_lower (Kd.Q_of_R ho) (below_size HB1.out)); clear hb2 ho; obtain ⟨Ao, co, eo, hle⟩ := Kd.Q_slice HO.out; subst eo; have HLE := Aside0.mk hle; clear hle; skip) | (go_at_call 58; refine (impl_TrimTrace.clip _ _ _ HLE.out _).mono ?_; rintro e w3 ⟨rfl, rfl⟩))
       go_ret
       exact ⟨_, rfl, Kd.Q_clip HO.out (Nat.le_refl _) HLE.out, HB2.out⟩
def laws_equalTrace.l0 : Nat → List (S48) → List (S48) → Int → Option (Bool)
  | 0, _, _, _ => none
  | k + 1, x0, x1, x5 => if x5 < (x0.length : Int) then (if 0 ≤ x5 then (if x5 < (x1.length : Int) then (if (!((((rd_T48 x0 x5).f0).toList) == (((rd_T48 x1 x5).f0).toList)) || (!(((rd_T48 x0 x5).f1) == ((rd_T48 x1 x5).f1)))) = true then (some false) else (laws_equalTrace.l0 k x0 x1 (wrap64 (x5 + 1)))) else (none)) else (none)) else (some true)
def laws_equalTrace.f (k : Nat) (l0 : List (S48)) (l1 : List (S48)) : Option (Bool) := if (l0.length : Int) = (l1.length : Int) then (laws_equalTrace.l0 k l0 l1 0) else (some false)
set_option maxHeartbeats 8000000 in
set_option maxRecDepth 100000 in
theorem laws_equalTrace.calls (k : Nat) (A0 : Option Addr) (c0 : Nat) (l0 : List (S48)) (A1 : Option Addr) (c1 : Nat) (l1 : List (S48)) (r : Bool) (w : World) (hr0 : Kd.C k48 w A0 l0.length l0) (hc0 : l0.length ≤ c0) (hr1 : Kd.C k48 w A1 l1.length l1) (hc1 : l1.length ≤ c1) (h : laws_equalTrace.f k l0 l1 = some r) :
    Calls Try.prog 25 #[.slice A0 l0.length c0, .slice A1 l1.length c1] w fun e w' => e = .returned (.bool r) ∧ Drawn0 w w' := by
  have hu48 := Try.underlying48
  have HR0 := Aside0.mk hr0
  have HC0 := Aside0.mk hc0
  clear hr0 hc0
  have HR1 := Aside0.mk hr1
  have HC1 := Aside0.mk hc1
  clear hr1 hc1
  have H : (if (l0.length : Int) = (l1.length : Int) then (laws_equalTrace.l0 k l0 l1 0) else (some false)) = some r := h
  clear h
  by_cases c3 : (l0.length : Int) = (l1.length : Int)
  · rw [if_pos c3] at H
    have c3b0 : ((l0.length : Int) == (l1.length : Int)) = true := beq_iff_eq.mpr c3
    have c3b1 : ((l0.length : Int) != (l1.length : Int)) = false := bne_eq_false_iff_eq.mpr c3
    have c3b2 : (l0.length == l1.length) = true := by first | simpa using c3 | (simp at c3 ⊢; omega)
    clear c3
    have H' := Aside0.mk H
    clear H
    go_enter Try.func25, Try.ntmps25
    go_wp2
    repeat (go_quiet (fail); try go_wp2)
    go_loopg [5] k (fun kq v5 w' => ∃ (x5_1 : Int), v5 = .int .i64 x5_1 ∧ Aside0 (laws_equalTrace.l0 kq l0 l1 x5_1 = some r) ∧ Aside0 (kq ≤ k) ∧ Drawn0 w w')
    case atStart => exact ⟨(0), (by first | rfl | (simp; done) | (simp [*]; done)), H', ⟨Nat.le_refl _⟩, by repeat (first | exact Drawn0.refl _ | apply Drawn0.step)⟩
    case round =>
      clear H'
      try clear c1
      try clear c2
      try clear p2
      try clear c3
      try clear c3b0
      try clear c3b1
      try clear c3b2
      obtain ⟨x5_1, rfl, HA, HK1, ⟨m1, rfl⟩⟩ := hrel
      cases gk with
      | zero => exact absurd HA.out (by simp [laws_equalTrace.l0])
      | succ k1 =>
        have H := HA.out
        clear HA
        simp only [laws_equalTrace.l0] at H
        by_cases c4 : x5_1 < (l0.length : Int)
        · rw [if_pos c4] at H
          have c4b0 : decide (x5_1 < (l0.length : Int)) = true := decide_eq_true c4
          clear c4
          by_cases c5 : 0 ≤ x5_1
          · rw [if_pos c5] at H
            have c5b0 : decide (0 ≤ x5_1) = true := decide_eq_true c5
            clear c5
            by_cases c6 : x5_1 < (l1.length : Int)
            · rw [if_pos c6] at H
              have c6b0 : decide (x5_1 < (l1.length : Int)) = true := decide_eq_true c6
              clear c6
              by_cases c7 : (!((((rd_T48 l0 x5_1).f0).toList) == (((rd_T48 l1 x5_1).f0).toList)) || (!(((rd_T48 l0 x5_1).f1) == ((rd_T48 l1 x5_1).f1)))) = true
              · rw [if_pos c7] at H
                have c7b0 : (!((((rd_T48 l0 x5_1).f0).toList) == (((rd_T48 l1 x5_1).f0).toList)) || (!(((rd_T48 l0 x5_1).f1) == ((rd_T48 l1 x5_1).f1)))) = true := c7
                clear c7
                obtain rfl := Option.some.inj H
                have p279 : 0 ≤ (x5_1 : Int) := of_decide_eq_true (by first | (with_reducible assumption) | assumption)
                have q279 : x5_1 < (l0.length : Int) := of_decide_eq_true (by first | (with_reducible assumption) | assumption)
                obtain ⟨ad279, e279, hx279_0, hx279_1⟩ := at_T48 HR0.out x5_1 p279 q279
                cases e279
                replace p279 := eq_true p279
                replace q279 := eq_true q279
                have p280 : 0 ≤ (x5_1 : Int) := of_decide_eq_true (by first | (with_reducible assumption) | assumption)
                have q280 : x5_1 < (l1.length : Int) := of_decide_eq_true (by first | (with_reducible assumption) | assumption)
                obtain ⟨ad280, e280, hx280_0, hx280_1⟩ := at_T48 HR1.out x5_1 p280 q280
                cases e280
                replace p280 := eq_true p280
                replace q280 := eq_true q280
                go_wp2
                repeat (go_quiet (fail); try go_wp2)
                go_ret
                exact ⟨by first | rfl | (simp; done) | (simp [*]; done), by repeat (first | exact Drawn0.refl _ | apply Drawn0.step)⟩
              · rw [if_neg c7] at H
                have c7b0 : (!((((rd_T48 l0 x5_1).f0).toList) == (((rd_T48 l1 x5_1).f0).toList)) || (!(((rd_T48 l0 x5_1).f1) == ((rd_T48 l1 x5_1).f1)))) = false := by simpa using c7
                clear c7
                have H' := Aside0.mk H
                clear H
                have p279 : 0 ≤ (x5_1 : Int) := of_decide_eq_true (by first | (with_reducible assumption) | assumption)
                have q279 : x5_1 < (l0.length : Int) := of_decide_eq_true (by first | (with_reducible assumption) | assumption)
                obtain ⟨ad279, e279, hx279_0, hx279_1⟩ := at_T48 HR0.out x5_1 p279 q279
                cases e279
                replace p279 := eq_true p279
                replace q279 := eq_true q279
                have p280 : 0 ≤ (x5_1 : Int) := of_decide_eq_true (by first | (with_reducible assumption) | assumption)
                have q280 : x5_1 < (l1.length : Int) := of_decide_eq_true (by first | (with_reducible assumption) | assumption)
                obtain ⟨ad280, e280, hx280_0, hx280_1⟩ := at_T48 HR1.out x5_1 p280 q280
                cases e280
                replace p280 := eq_true p280
                replace q280 := eq_true q280
                go_wp2
                repeat (go_quiet (fail); try go_wp2)
                go_roundg k1
                case measure => have := HK1.out; omega
                case rel => exact ⟨(wrap64 (x5_1 + 1)), (by first | rfl | (simp; done) | (simp [*]; done)), H', ⟨by have := HK1.out; omega⟩, by repeat (first | exact Drawn0.refl _ | apply Drawn0.step)⟩
            · rw [if_neg c6] at H
              exact absurd H (by simp)
          · rw [if_neg c5] at H
            exact absurd H (by simp)
        · rw [if_neg c4] at H
          have c4b0 : decide (x5_1 < (l0.length : Int)) = false := decide_eq_false c4
          clear c4
          obtain rfl := Option.some.inj H
          go_wp2
          repeat (go_quiet (fail); try go_wp2)
          go_ret
          exact ⟨by first | rfl | (simp; done) | (simp [*]; done), by repeat (first | exact Drawn0.refl _ | apply Drawn0.step)⟩
  · rw [if_neg c3] at H
    have c3b0 : ((l0.length : Int) == (l1.length : Int)) = false := beq_eq_false_iff_ne.mpr c3
    have c3b1 : ((l0.length : Int) != (l1.length : Int)) = true := bne_iff_ne.mpr c3
    have c3b2 : (l0.length == l1.length) = false := by first | simpa using c3 | (simp at c3 ⊢; omega)
    obtain rfl := Option.some.inj H
    go_enter Try.func25, Try.ntmps25
    go_wp2
    repeat (go_quiet (fail); try go_wp2)
    go_ret
    exact ⟨by first | rfl | (simp; done) | (simp [*]; done), by repeat (first | exact Drawn0.refl _ | apply Drawn0.step)⟩
def spec_copyFrames.f (l0 : List (S48)) : Option ((List (S48))) := (some (([] : List (S48)) : List (S48))).bind fun y281 => (if y281.length + l0.length < 5864062014805 then (some (y281 ++ l0)) else (none))
set_option maxHeartbeats 8000000 in
set_option maxRecDepth 100000 in
theorem spec_copyFrames.calls (A0 : Option Addr) (c0 : Nat) (l0 : List (S48)) (r : List (S48)) (w : World) (hr0 : Kd.C k48 w A0 l0.length l0) (hc0 : l0.length ≤ c0) (h : spec_copyFrames.f l0 = some r) :
    Calls Try.prog 59 #[.slice A0 l0.length c0] w fun e w' => ∃ v0_ : Value, e = .returned (v0_) ∧ Kd.R k48 48 w' w.heap.size (fun _ => True) v0_ r ∧ Below w.heap.size w w' := by
  have HR0 := Aside0.mk hr0
  have HC0 := Aside0.mk hc0
  clear hr0 hc0
  have HB := Aside0.mk (Below.refl w.heap.size w)
  have H : ((some (([] : List (S48)) : List (S48))).bind fun y281 => (if y281.length + l0.length < 5864062014805 then (some (y281 ++ l0)) else (none))) = some r := h
  clear h
  obtain ⟨y281, hy281⟩ : ∃ y_ : List (S48), y_ = (([] : List (S48))) := ⟨_, rfl⟩
  replace H : (if y281.length + l0.length < 5864062014805 then (some (y281 ++ l0)) else (none)) = some r := by first | (rw [hy281]; with_reducible exact H) | (have H2_ := (Option.bind_some _ _).symm.trans H; rw [hy281]; with_reducible exact H2_) | (have H2_ := (Option.bind_some _ _).symm.trans H; with_reducible exact H2_) | with_reducible exact H | (rw [hy281]; exact H) | exact H
  have Ny281 := Aside0.mk hy281
  clear hy281
  by_cases c2 : y281.length + l0.length < 5864062014805
  · rw [if_pos c2] at H
    have LMc2 := Aside0.mk c2
    clear c2
    obtain ⟨y284, hy284⟩ : ∃ y_ : List (S48), y_ = (y281 ++ l0) := ⟨_, rfl⟩
    replace H : (some y284) = some r := by first | (rw [hy284]; with_reducible exact H) | (have H2_ := (Option.bind_some _ _).symm.trans H; rw [hy284]; with_reducible exact H2_) | (have H2_ := (Option.bind_some _ _).symm.trans H; with_reducible exact H2_) | with_reducible exact H | (rw [hy284]; exact H) | exact H
    have Ny284 := Aside0.mk hy284
    clear hy284
    obtain rfl := Option.some.inj H
    go_enter Try.func59, Try.ntmps59
    go_wp2_with (first | ((with_reducible refine gate_dst (N := 3) rfl ?_); refine Kd.R_lit k48 _ 48 ?hg (N := 3) ?hd (xs := ([] : List (S48))) (inner := []) (ok := fun _ => True) (okp := fun _ => True) ?hr ?hp (fun _ hk => hk) trivial (Below.refl _ _) (Nat.le_refl _) (by simp) ?_; (case hd => rfl); (case hg => rfl); (case hr => first | (go_simp; done) | (go_simp; rfl)); (case hp => exact (Reps.none _ _)); intro v282 w3 ho4 hb hg_ hnew_; clear hg_ hnew_; (first | rw [← Ny281.out] at ho4 | (simp only [Int.reduceToNat] at ho4; rw [← Ny281.out] at ho4)); have n0_ := Aside0.mk (Kd.R_lower ho4 (below_size (by repeat (first | (with_reducible first | exact HB.out | apply below_alloc | apply pw_below_drewN | apply below_drew1) | exact HB.out)))); have n1_ := Aside0.mk (below_step (by repeat (first | (with_reducible first | exact HB.out | apply below_alloc | apply pw_below_drewN | apply below_drew1) | exact HB.out)) hb); clear HB; have HO283 := n0_; have HB := n1_; clear n0_ n1_; clear hb ho4) | ((with_reducible refine gate_builtin (b := .append) (xs := #[.tmp 3, .tmp 4]) rfl ?_); at_builtin; refine Kd.R_append_rows k48 (w0 := w) w.heap.size rfl (.tmp 3) (.tmp 4) 25 48 (.agg #[(.string ⟨#[]⟩), (.int .i64 0)]) 24 rfl Try.underlying25 info48 rfl (by decide) (by omega) v282 y281 l0 _ _ _ (fun _ => True) (fun _ => False) rfl rfl ?aO ?aR (fun _ _ h => h) (fun _ h => h.elim) ?aF ?aB ?aS ?aL ?_; (case aR => repeat (first | exact (Kd.C_below HR0.out HB.out) | (with_reducible refine Kd.C_alloc ?_ _) | (with_reducible refine Kd.C_drewN ?_ _) | (with_reducible refine Kd.C_drew ?_))); (case aB => exact (by repeat (first | (with_reducible first | exact HB.out | apply below_alloc | apply pw_below_drewN | apply below_drew1) | exact HB.out))); (case aF => exact (fun _ _ => trivial)); (case aO => exact (by (with_reducible repeat (first | apply Kd.R_alloc | apply Kd.R_drewN | apply Kd.R_drew)); exact HO283.out)); (case aS => exact (below_size (by repeat (first | (with_reducible first | exact HB.out | apply below_alloc | apply pw_below_drewN | apply below_drew1) | exact HB.out)))); (case aL => have := LMc2.out; omega); intro v285 w5 ho hb hg hat; rw [← Ny284.out] at ho; have n0_ := Aside0.mk (hb); have n1_ := Aside0.mk (ho); clear HB; clear HO283; have HB := n0_; have HO286 := n1_; clear n0_ n1_; clear ho hb hg hat))
    go_ret
    exact ⟨_, by first | rfl | (simp [errW_none, errW_some] <;> rfl) | (simp [*, errW_none, errW_some] <;> rfl), by (with_reducible repeat (first | apply Kd.R_alloc | apply Kd.R_drewN | apply Kd.R_drew)); exact HO286.out, by repeat (first | (with_reducible first | exact HB.out | apply below_alloc | apply pw_below_drewN | apply below_drew1) | exact HB.out)⟩
  · rw [if_neg c2] at H
    exact absurd H (by simp)
end Go.Proofs.Ytoahlfggbeijpaa.PT
