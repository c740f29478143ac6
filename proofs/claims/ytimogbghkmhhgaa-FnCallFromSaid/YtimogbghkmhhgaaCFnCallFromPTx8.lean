/- Words and walks that the law's proof uses: each printed function's contract. Conditions: none beyond the statement's own. -/
import Derived.Test.YtimogbghkmhhgaaCFnCallFromPTx0
import Derived.Test.YtimogbghkmhhgaaCFnCallFromPTx5
namespace Go.Proofs.Ytimogbghkmhhgaa.PT
open Go.RowKit Go.Proofs.YtimogbghkmhhgaaW.PrintWords Go.Proofs.YtimogbghkmhhgaaW.PrintLast Go.Proofs.YtimogbghkmhhgaaW.PrintMore
attribute [local go_sem] max2_int min2_int max_two min_two max_three min_three max_four min_four   -- for this text's walks alone
set_option linter.unusedVariables false
set_option linter.unusedSimpArgs false
def impl_TrimTrace.g (a1 : Int) (r : List (S34)) : List (S34) := if 0 ≤ a1 then (if (r.length : Int) < a1 then r else r.take a1.toNat) else (if -(r.length : Int) < a1 then r.drop ((r.length : Int) + a1).toNat else r)
def impl_TrimTrace.f (k : Nat) (l0 : List (S34)) (a1 : Int) : Option (List (S34)) := (impl_ValidTrace.f k l0).bind fun v => if v = true then ((impl_Frame_69.f l0).bind fun r => some (impl_TrimTrace.g a1 r)) else some []
set_option maxHeartbeats 8000000 in
set_option maxRecDepth 100000 in
theorem impl_TrimTrace.clip (A0 : Option Addr) (n c : Nat) (hc : n ≤ c) (w : World) :
    Calls Try.prog 70 #[.slice A0 n c] w fun e w' => e = .returned (.slice A0 n n) ∧ w' = w := by
  obtain ⟨i0, hi0, _, hsz, _⟩ := info_parts info34
  have hcut := cut_clip (P := Try.prog) 25 34 .i64 .i64 Try.underlying25 hi0 A0 n c n rfl hc
  clear hi0 hsz
  go_enter Try.func70, Try.ntmps70
  go_wp2
  go_ret
  exact ⟨rfl, rfl⟩
set_option maxHeartbeats 8000000 in
set_option maxRecDepth 100000 in
theorem impl_TrimTrace.calls (k : Nat) (A0 : Option Addr) (c0 : Nat) (l0 : List (S34)) (a1 : Int) (r : List (S34)) (w : World) (hr0 : Kd.C k34 w A0 l0.length l0) (hc0 : l0.length ≤ c0) (h : impl_TrimTrace.f k l0 a1 = some r) :
    Calls Try.prog 23 #[.slice A0 l0.length c0, .int .i64 a1] w fun e w' => ∃ v0_ : Value, e = .returned (v0_) ∧ Kd.Q k34 34 w' w.heap.size (fun _ => True) v0_ r ∧ Below w.heap.size w w' := by
  have HR0 := Aside0.mk hr0
  have HC0 := Aside0.mk hc0
  have hmx := hr0.2.1
  clear hr0 hc0
  obtain ⟨v, h1, h2⟩ := Option.bind_eq_some_iff.mp h
  clear h
  have H1 := Aside0.mk h1
  clear h1
  cases v with
  | false =>
    obtain rfl := Option.some.inj h2
    clear h2
    go_enter Try.func23, Try.ntmps23
    go_wp2_with (go_at_call 19; refine (impl_ValidTrace.calls k A0 c0 l0 false _ HR0.out HC0.out H1.out).mono ?_; rintro e w' ⟨rfl, hb⟩)
    go_ret
    exact ⟨_, rfl, Kd.Q_nil _ _ _ _ _, hb⟩
  | true =>
   rw [if_pos rfl] at h2
   obtain ⟨t, h3, h4⟩ := Option.bind_eq_some_iff.mp h2
   have htl : t = l0 := by
     unfold impl_Frame_69.f at h3
     by_cases q : l0.length < 5864062014805
     · rw [if_pos q] at h3
       exact (Option.some.inj h3).symm
     · rw [if_neg q] at h3
       cases h3
   obtain rfl := Option.some.inj h4
   have H3 := Aside0.mk h3
   clear h2 h3 h4
   have htm : (t.length : Int) ≤ 9223372036854775807 := by rw [htl]; omega
   clear htl
   have hng : (wrap64 (-(t.length : Int))) = -(t.length : Int) := by unfold wrap64; omega
   unfold impl_TrimTrace.g
   by_cases c2 : 0 ≤ a1
   · rw [if_pos c2]
     have c2b0 : decide (0 ≤ a1) = true := decide_eq_true c2
     by_cases c3 : (t.length : Int) < a1
     · rw [if_pos c3]
       have c3b0 : decide ((t.length : Int) < a1) = true := decide_eq_true c3
       have c3i := eq_true c3
       clear c2 c3 hng

       skip
       go_enter Try.func23, Try.ntmps23
       go_wp2_with (first | (go_at_call 19; refine (impl_ValidTrace.calls k A0 c0 l0 true _ HR0.out HC0.out H1.out).mono ?_; rintro e w1 ⟨rfl, hb⟩; have HB1 := Aside0.mk hb; clear hb) | (go_at_call 69; refine (impl_Frame_69.calls A0 c0 l0 t _ (Kd.C_below HR0.out HB1.out) HC0.out H3.out).mono ?_; rintro e w2 ⟨v0, rfl, ho, hb2⟩; have HB2 := Aside0.mk (below_step HB1.out hb2); have HO := Aside0.mk (Kd.Q_lower (Kd.Q_of_R ho) (below_size HB1.out)); clear hb2 ho; obtain ⟨Ao, co, eo, hle⟩ := Kd.Q_slice HO.out; subst eo; have HLE := Aside0.mk hle; clear hle; obtain ⟨i0, hi0, _, hsz, _⟩ := info_parts info34; have hcut := cut_to (P := Try.prog) 25 34 .i64 Try.underlying25 hi0 Ao t.length co (t.length : Int) (Int.natCast_nonneg _) (Int.le_refl _) HLE.out; rw [Int.toNat_natCast] at hcut; clear hi0 hsz) | (go_at_call 70; refine (impl_TrimTrace.clip _ _ _ HLE.out _).mono ?_; rintro e w3 ⟨rfl, rfl⟩))
       go_ret
       exact ⟨_, rfl, Kd.Q_clip HO.out (Nat.le_refl _) HLE.out, HB2.out⟩

     · rw [if_neg c3]
       have c3b0 : decide ((t.length : Int) < a1) = false := decide_eq_false c3
       have c3i := eq_false c3
       have H5 := Aside0.mk (show a1 ≤ (t.length : Int) by omega)
       have H6 := Aside0.mk c2
       clear c2 c3 hng

       skip
       go_enter Try.func23, Try.ntmps23
       go_wp2_with (first | (go_at_call 19; refine (impl_ValidTrace.calls k A0 c0 l0 true _ HR0.out HC0.out H1.out).mono ?_; rintro e w1 ⟨rfl, hb⟩; have HB1 := Aside0.mk hb; clear hb) | (go_at_call 69; refine (impl_Frame_69.calls A0 c0 l0 t _ (Kd.C_below HR0.out HB1.out) HC0.out H3.out).mono ?_; rintro e w2 ⟨v0, rfl, ho, hb2⟩; have HB2 := Aside0.mk (below_step HB1.out hb2); have HO := Aside0.mk (Kd.Q_lower (Kd.Q_of_R ho) (below_size HB1.out)); clear hb2 ho; obtain ⟨Ao, co, eo, hle⟩ := Kd.Q_slice HO.out; subst eo; have HLE := Aside0.mk hle; clear hle; obtain ⟨i0, hi0, _, hsz, _⟩ := info_parts info34; have hcut := cut_to (P := Try.prog) 25 34 .i64 Try.underlying25 hi0 Ao t.length co a1 H6.out H5.out HLE.out; clear hi0 hsz; have HO2 := Aside0.mk (Kd.Q_take (m := a1.toNat) HO.out (by have := H5.out; omega))) | (go_at_call 70; refine (impl_TrimTrace.clip _ _ _ (by have := HLE.out; have := H5.out; omega) _).mono ?_; rintro e w3 ⟨rfl, rfl⟩))
       go_ret
       exact ⟨_, rfl, by have hl_ : (t.take a1.toNat).length = a1.toNat := (by have := H5.out; rw [List.length_take]; omega); have hq_ := HO2.out; exact Kd.Q_clip hq_ (Nat.le_of_eq hl_) (by have := HLE.out; have := H5.out; omega), HB2.out⟩

   · rw [if_neg c2]
     have c2b0 : decide (0 ≤ a1) = false := decide_eq_false c2
     by_cases c3 : -(t.length : Int) < a1
     · rw [if_pos c3]
       have c3b0 : decide (wrap64 (-(t.length : Int)) < a1) = true := decide_eq_true (by rw [hng]; exact c3)
       have c3b1 : decide (-(t.length : Int) < a1) = true := decide_eq_true c3
       obtain ⟨J, hJ⟩ : ∃ J : Int, (t.length : Int) + a1 = J := ⟨_, rfl⟩
       have hJw : IntKind.i64.wrap ((t.length : Int) + a1) = J := by rw [i64_w, ← hJ]; unfold wrap64; omega
       rw [hJ]
       have H5 := Aside0.mk (show 0 ≤ J ∧ J ≤ (t.length : Int) by omega)
       clear c2 c3 hng hJ

       skip
       go_enter Try.func23, Try.ntmps23
       go_wp2_with (first | (go_at_call 19; refine (impl_ValidTrace.calls k A0 c0 l0 true _ HR0.out HC0.out H1.out).mono ?_; rintro e w1 ⟨rfl, hb⟩; have HB1 := Aside0.mk hb; clear hb) | (go_at_call 69; refine (impl_Frame_69.calls A0 c0 l0 t _ (Kd.C_below HR0.out HB1.out) HC0.out H3.out).mono ?_; rintro e w2 ⟨v0, rfl, ho, hb2⟩; have HB2 := Aside0.mk (below_step HB1.out hb2); have HO := Aside0.mk (Kd.Q_lower (Kd.Q_of_R ho) (below_size HB1.out)); clear hb2 ho; obtain ⟨Ao, co, eo, hle⟩ := Kd.Q_slice HO.out; subst eo; have HLE := Aside0.mk hle; clear hle; obtain ⟨i0, hi0, _, hsz, _⟩ := info_parts info34; have hcut := cut_from (P := Try.prog) 25 34 .i64 Try.underlying25 hi0 2 hsz Ao t.length co J H5.out.1 H5.out.2; clear hi0 hsz; have hq2 : Kd.Q k34 34 w2 w.heap.size (fun _ => True) (.slice (if co = J.toNat then Ao else Option.map (fun x => x.add (J.toNat * 2)) Ao) (t.length - J.toNat) (co - J.toNat)) (t.drop J.toNat) := Kd.Q_drop (k := J.toNat) HO.out (by have := H5.out; omega); obtain ⟨Aj, hAj⟩ : ∃ Aj : Option Addr, (if co = J.toNat then Ao else Option.map (fun x => x.add (J.toNat * 2)) Ao) = Aj := ⟨_, rfl⟩; rw [hAj] at hcut hq2; have HO2 := Aside0.mk hq2; clear hq2 hAj) | (go_at_call 70; refine (impl_TrimTrace.clip _ _ _ (by have := HLE.out; have := H5.out; omega) _).mono ?_; rintro e w3 ⟨rfl, rfl⟩))
       go_ret
       exact ⟨_, rfl, by have hl_ : (t.drop J.toNat).length = t.length - J.toNat := (by rw [List.length_drop]); have hq_ := HO2.out; exact Kd.Q_clip hq_ (Nat.le_of_eq hl_) (by have := HLE.out; have := H5.out; omega), HB2.out⟩

     · rw [if_neg c3]
       have c3b0 : decide (wrap64 (-(t.length : Int)) < a1) = false := decide_eq_false (by rw [hng]; exact c3)
       have c3b1 : decide (-(t.length : Int) < a1) = false := decide_eq_false c3
       clear c2 c3 hng

       skip
       go_enter Try.func23, Try.ntmps23
       go_wp2_with (first | (go_at_call 19; refine (impl_ValidTrace.calls k A0 c0 l0 true _ HR0.out HC0.out H1.out).mono ?_; rintro e w1 ⟨rfl, hb⟩; have HB1 := Aside0.mk hb; clear hb) | (go_at_call 69; refine (impl_Frame_69.calls A0 c0 l0 t _ (Kd.C_below HR0.out HB1.out) HC0.out H3.out).mono ?_; rintro e w2 ⟨v0, rfl, ho, hb2⟩; have HB2 := Aside0.mk (below_step HB1.out hb2); have HO := Aside0.mk (Kd.Q_lower (Kd.Q_of_R ho) (below_size HB1.out)); clear hb2 ho; obtain ⟨Ao, co, eo, hle⟩ := Kd.Q_slice HO.out; subst eo; have HLE := Aside0.mk hle; clear hle; skip) | (go_at_call 70; refine (impl_TrimTrace.clip _ _ _ HLE.out _).mono ?_; rintro e w3 ⟨rfl, rfl⟩))
       go_ret
       exact ⟨_, rfl, Kd.Q_clip HO.out (Nat.le_refl _) HLE.out, HB2.out⟩
end Go.Proofs.Ytimogbghkmhhgaa.PT
