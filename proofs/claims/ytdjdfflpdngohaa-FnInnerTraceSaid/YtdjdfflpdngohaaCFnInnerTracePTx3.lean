/- Words and walks that the law's proof uses: each printed function's contract. Conditions: none beyond the statement's own. -/
import Derived.Test.YtdjdfflpdngohaaCFnInnerTracePTx0
namespace Go.Proofs.Ytdjdfflpdngohaa.PT
open Go.RowKit Go.Proofs.YtdjdfflpdngohaaW.PrintWords Go.Proofs.YtdjdfflpdngohaaW.PrintLast Go.Proofs.YtdjdfflpdngohaaW.PrintMore
attribute [local go_sem] max2_int min2_int max_two min_two max_three min_three max_four min_four   -- for this text's walks alone
set_option linter.unusedVariables false
set_option linter.unusedSimpArgs false
def idxO {α : Type} (p : α → Option Bool) : List α → Int → Option Int
  | [], _ => some (-1)
  | x :: xs, i => (p x).bind fun b => if b = true then some i else idxO p xs (i + 1)
theorem idxO_at {α : Type} (p : α → Option Bool) (l : List α) (i : Nat) (z : α) (j : Int) (h : i < l.length) : idxO p (l.drop i) j = (p (l.getD i z)).bind fun b => if b = true then some j else idxO p (l.drop (i + 1)) (j + 1) := by
  rw [List.drop_eq_getElem_cons h]
  simp only [idxO]
  rw [List.getD_eq_getElem?_getD, List.getElem?_eq_getElem h]
  rfl
set_option maxHeartbeats 8000000 in
set_option maxRecDepth 100000 in
theorem impl_Frame_38.calls (g : Nat) (lb : Array Value) (eg : ∀ args w, (callFunc g args).run Try.prog w = .ok (.enter g args) w) (p : (S35) → Option Bool) (A0 : Option Addr) (c0 : Nat) (l0 : List (S35)) (r : Int) (w : World) (hr0 : Kd.C k35 w A0 l0.length l0) (hc0 : l0.length ≤ c0)
    (hp : ∀ (W : World) (x : (S35)) (b : Bool), Below w.heap.size w W → p x = some b → Calls Try.prog g (#[.agg #[.string x.f0, .int .i64 x.f1]] ++ lb) W fun e W' => e = .returned (.bool b) ∧ Below W.heap.size W W')
    (h : idxO p l0 0 = some r) :
    Calls Try.prog 38 #[.slice A0 l0.length c0, .func (.func g) #[] lb] w fun e w' => e = .returned (.int .i64 r) ∧ Below w.heap.size w w' := by
  have hu35 := Try.underlying35
  have HR0 := Aside0.mk hr0
  have HC0 := Aside0.mk hc0
  have hmx := hr0.2.1
  clear hr0 hc0
  have HB := Aside0.mk (Below.refl w.heap.size w)
  have HP := Aside0.mk hp
  clear hp
  have H' := Aside0.mk h
  clear h
  go_enter Try.func38, Try.ntmps38
  go_wp2
  go_loopg [5, 8] l0.length (fun gg _ v8 w' => ∃ (kk : Nat), v8 = .int .i64 kk ∧ Aside0 (kk ≤ l0.length) ∧ Aside0 (l0.length - kk ≤ gg) ∧ Aside0 (idxO p (l0.drop kk) kk = some r) ∧ Aside0 (Below w.heap.size w w'))
  case atStart => exact ⟨0, rfl, ⟨Nat.zero_le _⟩, ⟨by omega⟩, H', HB⟩
  case round =>
    clear H' HB
    obtain ⟨kk, rfl, HK1, HM, H, HB⟩ := hrel
    by_cases hlt : kk < l0.length
    · have c2b0 : decide ((kk : Int) < (l0.length : Int)) = true := decide_eq_true (by omega)
      have c2b1 : decide (kk < l0.length) = true := decide_eq_true hlt
      have c3b0 : decide ((0 : Int) ≤ (kk : Int)) = true := decide_eq_true (by omega)
      have H1 := H.out
      rw [idxO_at p l0 kk z35 kk hlt] at H1
      obtain ⟨b, hb1, hb2⟩ := Option.bind_eq_some_iff.mp H1
      clear H1 H
      obtain ⟨ad123, e123, hx0, hx1⟩ := at_T35 HR0.out (kk : Int) (by omega) (by omega)
      have hgd : rd_T35 l0 (kk : Int) = l0.getD kk z35 := rfl
      rw [hgd] at hx0 hx1
      clear hgd
      generalize l0.getD kk z35 = x at hx0 hx1 hb1
      have HX := Aside0.mk hb1
      clear hb1
      cases e123
      simp only [Int.toNat_natCast] at hx0 hx1
      replace hx0 := (HB.out.cell (World.block_lt_of_cell? w _ hx0)).trans hx0
      replace hx1 := (HB.out.cell (World.block_lt_of_cell? w _ hx1)).trans hx1
      have HL := Aside0.mk hlt
      have q123 : (kk : Int) < (l0.length : Int) := by omega
      clear hlt
      cases b with
      | true =>
        rw [if_pos rfl] at hb2
        have HE := Aside0.mk (Option.some.inj hb2)
        clear hb2
        go_wp2_with (go_at_fn g; refine (HP.out _ x true HB.out HX.out).mono ?_; rintro e w' ⟨rfl, hb'⟩)
        go_ret
        exact ⟨by obtain rfl := HE.out; rfl, below_step HB.out hb'⟩
      | false =>
        rw [if_neg (by decide)] at hb2
        have HE := Aside0.mk hb2
        clear hb2
        go_wp2_with (go_at_fn g; refine (HP.out _ x false HB.out HX.out).mono ?_; rintro e w' ⟨rfl, hb'⟩)
        go_roundg (l0.length - (kk + 1))
        case measure => have := HL.out; have := HM.out; omega
        case rel => exact ⟨kk + 1, by go_num, ⟨by have := HL.out; omega⟩, ⟨by omega⟩, ⟨by rw [← HE.out]; rfl⟩, ⟨below_step HB.out hb'⟩⟩
    · have c2b0 : decide ((kk : Int) < (l0.length : Int)) = false := decide_eq_false (by omega)
      have c2b1 : decide (kk < l0.length) = false := decide_eq_false hlt
      have H1 := H.out
      rw [List.drop_of_length_le (by omega)] at H1
      have HE := Aside0.mk (Option.some.inj H1)
      clear H1 H
      go_wp2
      go_ret
      exact ⟨by obtain rfl := HE.out; rfl, HB.out⟩
set_option maxHeartbeats 8000000 in
set_option maxRecDepth 100000 in
theorem impl_Frame_28.calls (g : Nat) (lb : Array Value) (eg : ∀ args w, (callFunc g args).run Try.prog w = .ok (.enter g args) w) (p : (S35) → Option Bool) (A0 : Option Addr) (c0 : Nat) (l0 : List (S35)) (r : Int) (w : World) (hr0 : Kd.C k35 w A0 l0.length l0) (hc0 : l0.length ≤ c0)
    (hp : ∀ (W : World) (x : (S35)) (b : Bool), Below w.heap.size w W → p x = some b → Calls Try.prog g (#[.agg #[.string x.f0, .int .i64 x.f1]] ++ lb) W fun e W' => e = .returned (.bool b) ∧ Below W.heap.size W W')
    (h : idxO p l0 0 = some r) :
    Calls Try.prog 28 #[.slice A0 l0.length c0, .func (.func g) #[] lb] w fun e w' => e = .returned (.bool (decide (0 ≤ r))) ∧ Below w.heap.size w w' := by
  have HR0 := Aside0.mk hr0
  have HC0 := Aside0.mk hc0
  have HP := Aside0.mk hp
  have H := Aside0.mk h
  clear hr0 hc0 hp h
  go_enter Try.func28, Try.ntmps28
  go_wp2_with (go_at_call 38; refine (impl_Frame_38.calls g lb eg p A0 c0 l0 r _ HR0.out HC0.out HP.out H.out).mono ?_; rintro e w' ⟨rfl, hb⟩)
  go_ret
  exact ⟨rfl, hb⟩
def impl_within.f (a0 : Int) (a1 : Int) (a2 : Int) : Option (Bool) := if a0 ≥ a1 then (some (decide (a0 ≤ a2))) else (some false)
set_option maxHeartbeats 8000000 in
set_option maxRecDepth 100000 in
theorem impl_within.calls (a0 : Int) (a1 : Int) (a2 : Int) (r : Bool) (w : World) (h : impl_within.f a0 a1 a2 = some r) :
    Calls Try.prog 31 #[.int .i64 a0, .int .i64 a1, .int .i64 a2] w fun e w' => e = .returned (.bool r) ∧ Drawn0 w w' := by
  have H : (if a0 ≥ a1 then (some (decide (a0 ≤ a2))) else (some false)) = some r := h
  clear h
  by_cases c4 : a0 ≥ a1
  · rw [if_pos c4] at H
    have c4b0 : decide (a1 ≤ a0) = true := decide_eq_true c4
    clear c4
    obtain rfl := Option.some.inj H
    go_enter Try.func31, Try.ntmps31
    go_wp2
    go_ret
    exact ⟨by first | rfl | (simp; done) | (simp [*]; done), by repeat (first | exact Drawn0.refl _ | apply Drawn0.step)⟩
  · rw [if_neg c4] at H
    have c4b0 : decide (a1 ≤ a0) = false := decide_eq_false c4
    clear c4
    obtain rfl := Option.some.inj H
    go_enter Try.func31, Try.ntmps31
    go_wp2
    go_ret
    exact ⟨by first | rfl | (simp; done) | (simp [*]; done), by repeat (first | exact Drawn0.refl _ | apply Drawn0.step)⟩
def impl_nameOk.l0 : Nat → ByteArray → Int → Int → Option (Bool)
  | 0, _, _, _ => none
  | k + 1, x0, x5, x6 => if x6 < x5 then (if 0 ≤ x6 then (if x6 < (x0.size : Int) then (if (bt x0 x6) < 97 then (some false) else (if (bt x0 x6) > 122 then (some false) else (impl_nameOk.l0 k x0 x5 (wrap64 (x6 + 1))))) else (none)) else (none)) else ((impl_within.f (x0.size : Int) 1 6).bind fun t135 => (some t135))
def impl_nameOk.f (k : Nat) (a0 : ByteArray) : Option (Bool) := impl_nameOk.l0 k a0 (a0.size : Int) 0
set_option maxHeartbeats 8000000 in
set_option maxRecDepth 100000 in
theorem impl_nameOk.calls (k : Nat) (a0 : ByteArray) (r : Bool) (w : World) (h : impl_nameOk.f k a0 = some r) :
    Calls Try.prog 30 #[.string a0] w fun e w' => e = .returned (.bool r) ∧ Drawn0 w w' := by
  have H : (impl_nameOk.l0 k a0 (a0.size : Int) 0) = some r := h
  clear h
  have H' := Aside0.mk H
  clear H
  go_enter Try.func30, Try.ntmps30
  go_wp2
  go_loopg [6] k (fun kq v6 w' => ∃ (x6_1 : Int), v6 = .int .i64 x6_1 ∧ Aside0 (impl_nameOk.l0 kq a0 (a0.size : Int) x6_1 = some r) ∧ Aside0 (kq ≤ k) ∧ Drawn0 w w')
  case atStart => exact ⟨(0), (by first | rfl | (simp; done) | (simp [*]; done)), H', ⟨Nat.le_refl _⟩, by repeat (first | exact Drawn0.refl _ | apply Drawn0.step)⟩
  case round =>
    clear H'
    obtain ⟨x6_1, rfl, HA, HK1, ⟨m1, rfl⟩⟩ := hrel
    cases gk with
    | zero => exact absurd HA.out (by simp [impl_nameOk.l0])
    | succ k1 =>
      have H := HA.out
      clear HA
      simp only [impl_nameOk.l0] at H
      by_cases c2 : x6_1 < (a0.size : Int)
      · rw [if_pos c2] at H
        have c2b0 : decide (x6_1 < (a0.size : Int)) = true := decide_eq_true c2
        clear c2
        by_cases c3 : 0 ≤ x6_1
        · rw [if_pos c3] at H
          have c3b0 : decide (0 ≤ x6_1) = true := decide_eq_true c3
          clear c3
          by_cases c4 : x6_1 < (a0.size : Int)
          · rw [if_pos c4] at H
            have c4b0 : decide (x6_1 < (a0.size : Int)) = true := decide_eq_true c4
            clear c4
            by_cases c6 : (bt a0 x6_1) < 97
            · rw [if_pos c6] at H
              have c6b0 : decide ((bt a0 x6_1) < 97) = true := decide_eq_true c6
              clear c6
              obtain rfl := Option.some.inj H
              have p5 : 0 ≤ (x6_1 : Int) := of_decide_eq_true (by first | (with_reducible assumption) | assumption)
              have q5 : x6_1 < (a0.size : Int) := of_decide_eq_true (by first | (with_reducible assumption) | assumption)
              have hx5 := bt_at a0 x6_1
              replace p5 := eq_true p5
              replace q5 := eq_true q5
              go_wp2
              go_ret
              exact ⟨by first | rfl | (simp; done) | (simp [*]; done), by repeat (first | exact Drawn0.refl _ | apply Drawn0.step)⟩
            · rw [if_neg c6] at H
              have c6b0 : decide ((bt a0 x6_1) < 97) = false := decide_eq_false c6
              clear c6
              by_cases c8 : (bt a0 x6_1) > 122
              · rw [if_pos c8] at H
                have c8b0 : decide (122 < (bt a0 x6_1)) = true := decide_eq_true c8
                clear c8
                obtain rfl := Option.some.inj H
                have p5 : 0 ≤ (x6_1 : Int) := of_decide_eq_true (by first | (with_reducible assumption) | assumption)
                have q5 : x6_1 < (a0.size : Int) := of_decide_eq_true (by first | (with_reducible assumption) | assumption)
                have hx5 := bt_at a0 x6_1
                replace p5 := eq_true p5
                replace q5 := eq_true q5
                have p7 : 0 ≤ (x6_1 : Int) := of_decide_eq_true (by first | (with_reducible assumption) | assumption)
                have q7 : x6_1 < (a0.size : Int) := of_decide_eq_true (by first | (with_reducible assumption) | assumption)
                have hx7 := bt_at a0 x6_1
                replace p7 := eq_true p7
                replace q7 := eq_true q7
                go_wp2
                go_ret
                exact ⟨by first | rfl | (simp; done) | (simp [*]; done), by repeat (first | exact Drawn0.refl _ | apply Drawn0.step)⟩
              · rw [if_neg c8] at H
                have c8b0 : decide (122 < (bt a0 x6_1)) = false := decide_eq_false c8
                clear c8
                have H' := Aside0.mk H
                clear H
                have p5 : 0 ≤ (x6_1 : Int) := of_decide_eq_true (by first | (with_reducible assumption) | assumption)
                have q5 : x6_1 < (a0.size : Int) := of_decide_eq_true (by first | (with_reducible assumption) | assumption)
                have hx5 := bt_at a0 x6_1
                replace p5 := eq_true p5
                replace q5 := eq_true q5
                have p7 : 0 ≤ (x6_1 : Int) := of_decide_eq_true (by first | (with_reducible assumption) | assumption)
                have q7 : x6_1 < (a0.size : Int) := of_decide_eq_true (by first | (with_reducible assumption) | assumption)
                have hx7 := bt_at a0 x6_1
                replace p7 := eq_true p7
                replace q7 := eq_true q7
                go_wp2
                go_roundg k1
                case measure => have := HK1.out; omega
                case rel => exact ⟨(wrap64 (x6_1 + 1)), (by first | rfl | (simp; done) | (simp [*]; done)), H', ⟨by have := HK1.out; omega⟩, by repeat (first | exact Drawn0.refl _ | apply Drawn0.step)⟩
          · rw [if_neg c4] at H
            exact absurd H (by simp)
        · rw [if_neg c3] at H
          exact absurd H (by simp)
      · rw [if_neg c2] at H
        have c2b0 : decide (x6_1 < (a0.size : Int)) = false := decide_eq_false c2
        clear c2
        replace H := Option.bind_eq_some_iff.mp H
        obtain ⟨t135, A90, H⟩ := H
        replace H : (some t135) = some r := H
        have A9 := Aside0.mk A90
        clear A90
        obtain rfl := Option.some.inj H
        go_wp2_with (first | ((with_reducible refine gate_callee (f := 31) rfl ?_); refine goesL_ (some 22) rfl rfl Try.func31 (by kernel_rfl) rfl #[.int .i64 (a0.size : Int), .int .i64 1, .int .i64 6] rfl (by (try simp only [List.map_toArray, List.map_cons, List.map_nil]); first | done | rfl | (simp only [List.length_drop, List.length_take]; rfl)) ?_; (with_reducible refine (impl_within.calls (a0.size : Int) 1 6 t135 _ A9.out).mono ?_); rintro e w' ⟨rfl, ⟨nd, rfl⟩⟩; refine ⟨_, rfl, ?_⟩))
        go_ret
        exact ⟨by first | rfl | (simp; done) | (simp [*]; done), by repeat (first | exact Drawn0.refl _ | apply Drawn0.step)⟩
def impl_ValidTrace_1.f (k : Nat) (a0_0 : ByteArray) (a0_1 : Int) : Option (Bool) := (impl_nameOk.f k a0_0).bind fun t137 => (if t137 = true then ((impl_within.f a0_1 1 999).bind fun t138 => (some (!t138))) else (some true))
set_option maxHeartbeats 8000000 in
set_option maxRecDepth 100000 in
theorem impl_ValidTrace_1.calls (k : Nat) (a0_0 : ByteArray) (a0_1 : Int) (r : Bool) (w : World) (h : impl_ValidTrace_1.f k a0_0 a0_1 = some r) :
    Calls Try.prog 29 #[.agg #[.string a0_0, .int .i64 a0_1]] w fun e w' => e = .returned (.bool r) ∧ Below w.heap.size w w' := by
  have hu35 := Try.underlying35
  have HB := Aside0.mk (Below.refl w.heap.size w)
  have H : ((impl_nameOk.f k a0_0).bind fun t137 => (if t137 = true then ((impl_within.f a0_1 1 999).bind fun t138 => (some (!t138))) else (some true))) = some r := h
  clear h
  replace H := Option.bind_eq_some_iff.mp H
  obtain ⟨t137, A20, H⟩ := H
  replace H : (if t137 = true then ((impl_within.f a0_1 1 999).bind fun t138 => (some (!t138))) else (some true)) = some r := H
  have A2 := Aside0.mk A20
  clear A20
  by_cases c3 : t137 = true
  · subst c3
    have H1 : ((impl_within.f a0_1 1 999).bind fun t138 => (some (!t138))) = some r := by rw [if_pos rfl] at H; exact H
    clear H
    have H := H1
    clear H1
    replace H := Option.bind_eq_some_iff.mp H
    obtain ⟨t138, A40, H⟩ := H
    replace H : (some (!t138)) = some r := H
    have A4 := Aside0.mk A40
    clear A40
    obtain rfl := Option.some.inj H
    go_enter Try.func29, Try.ntmps29
    go_wp2_with (first | ((with_reducible refine gate_dst (N := 1) rfl ?_); refine box_event ?hg (N := 1) ?hd (cs := #[.string a0_0, .int .i64 a0_1]) (t := 35) ?hr ?_; (case hd => rfl); (case hg => rfl); (case hr => first | (go_simp; done) | (go_simp; rfl)); intro gb136 hg w5 hbox hb; have n0_ := Aside0.mk (below_step (by repeat (first | (with_reducible first | exact HB.out | apply below_alloc | apply pw_below_drewN | apply below_drew1) | exact HB.out)) hb); have n1_ := Aside0.mk (hbox); have n2_ := Aside0.mk ((by rw [hg]; exact (below_size (by repeat (first | (with_reducible first | exact HB.out | apply below_alloc | apply pw_below_drewN | apply below_drew1) | exact HB.out))) : w.heap.size ≤ gb136)); have n3_ := Aside0.mk ((by rw [hg]; exact (below_size (by repeat (first | (with_reducible first | exact HB.out | apply below_alloc | apply pw_below_drewN | apply below_drew1) | exact HB.out))) : w.heap.size ≤ gb136)); clear HB; have HB := n0_; have BK136 := n1_; have GW136 := n2_; have GE136 := n3_; clear n0_ n1_ n2_ n3_; clear hb hbox hg; have hcz6_0 : w5.cell? ⟨gb136, 0, none⟩ = some (.string a0_0) := (blk_cell BK136.out 0).trans rfl; have hcz6_1 : w5.cell? ⟨gb136, 1, none⟩ = some (.int .i64 a0_1) := (blk_cell BK136.out 1).trans rfl; have hfz6_0 := blk_frozen BK136.out 0; have hfz6_1 := blk_frozen BK136.out 1) | ((with_reducible refine gate_callee (f := 30) rfl ?_); refine goesL_ (some 5) rfl rfl Try.func30 (by kernel_rfl) rfl #[.string a0_0] rfl (by (try simp only [List.map_toArray, List.map_cons, List.map_nil]); first | done | rfl | (simp only [List.length_drop, List.length_take]; rfl)) ?_; (with_reducible refine (impl_nameOk.calls k a0_0 true _ A2.out).mono ?_); rintro e w' ⟨rfl, ⟨nd, rfl⟩⟩; refine ⟨_, rfl, ?_⟩) | (go_at_call 31; (with_reducible refine (impl_within.calls a0_1 1 999 t138 _ A4.out).mono ?_); rintro e w' ⟨rfl, ⟨nd, rfl⟩⟩))
    go_ret
    exact ⟨by first | rfl | (simp [errW_none, errW_some] <;> rfl) | (simp [*, errW_none, errW_some] <;> rfl), by repeat (first | (with_reducible first | exact HB.out | apply below_alloc | apply pw_below_drewN | apply below_drew1 | refine below_set ?_ GE136.out) | exact HB.out)⟩
  · replace c3 := Bool.eq_false_iff.mpr c3
    subst c3
    have H1 : (some true) = some r := by rw [if_neg (show ¬ (false = true) by decide)] at H; exact H
    clear H
    have H := H1
    clear H1
    obtain rfl := Option.some.inj H
    go_enter Try.func29, Try.ntmps29
    go_wp2_with (first | ((with_reducible refine gate_dst (N := 1) rfl ?_); refine box_event ?hg (N := 1) ?hd (cs := #[.string a0_0, .int .i64 a0_1]) (t := 35) ?hr ?_; (case hd => rfl); (case hg => rfl); (case hr => first | (go_simp; done) | (go_simp; rfl)); intro gb136 hg w7 hbox hb; have n0_ := Aside0.mk (below_step (by repeat (first | (with_reducible first | exact HB.out | apply below_alloc | apply pw_below_drewN | apply below_drew1) | exact HB.out)) hb); have n1_ := Aside0.mk (hbox); have n2_ := Aside0.mk ((by rw [hg]; exact (below_size (by repeat (first | (with_reducible first | exact HB.out | apply below_alloc | apply pw_below_drewN | apply below_drew1) | exact HB.out))) : w.heap.size ≤ gb136)); have n3_ := Aside0.mk ((by rw [hg]; exact (below_size (by repeat (first | (with_reducible first | exact HB.out | apply below_alloc | apply pw_below_drewN | apply below_drew1) | exact HB.out))) : w.heap.size ≤ gb136)); clear HB; have HB := n0_; have BK136 := n1_; have GW136 := n2_; have GE136 := n3_; clear n0_ n1_ n2_ n3_; clear hb hbox hg; have hcz8_0 : w7.cell? ⟨gb136, 0, none⟩ = some (.string a0_0) := (blk_cell BK136.out 0).trans rfl; have hcz8_1 : w7.cell? ⟨gb136, 1, none⟩ = some (.int .i64 a0_1) := (blk_cell BK136.out 1).trans rfl; have hfz8_0 := blk_frozen BK136.out 0; have hfz8_1 := blk_frozen BK136.out 1) | ((with_reducible refine gate_callee (f := 30) rfl ?_); refine goesL_ (some 5) rfl rfl Try.func30 (by kernel_rfl) rfl #[.string a0_0] rfl (by (try simp only [List.map_toArray, List.map_cons, List.map_nil]); first | done | rfl | (simp only [List.length_drop, List.length_take]; rfl)) ?_; (with_reducible refine (impl_nameOk.calls k a0_0 false _ A2.out).mono ?_); rintro e w' ⟨rfl, ⟨nd, rfl⟩⟩; refine ⟨_, rfl, ?_⟩))
    go_ret
    exact ⟨by first | rfl | (simp [errW_none, errW_some] <;> rfl) | (simp [*, errW_none, errW_some] <;> rfl), by repeat (first | (with_reducible first | exact HB.out | apply below_alloc | apply pw_below_drewN | apply below_drew1 | refine below_set ?_ GE136.out) | exact HB.out)⟩
def impl_ValidTrace.f (k : Nat) (l0 : List (S35)) : Option Bool := if (l0.length : Int) ≤ 12 then ((idxO (fun x => impl_ValidTrace_1.f k x.f0 x.f1) l0 0).bind fun t => some (!(decide (0 ≤ t)))) else (some false)
set_option maxHeartbeats 8000000 in
set_option maxRecDepth 100000 in
theorem impl_ValidTrace.calls (k : Nat) (A0 : Option Addr) (c0 : Nat) (l0 : List (S35)) (r : Bool) (w : World) (hr0 : Kd.C k35 w A0 l0.length l0) (hc0 : l0.length ≤ c0) (h : impl_ValidTrace.f k l0 = some r) :
    Calls Try.prog 20 #[.slice A0 l0.length c0] w fun e w' => e = .returned (.bool r) ∧ Below w.heap.size w w' := by
  have HR0 := Aside0.mk hr0
  have HC0 := Aside0.mk hc0
  clear hr0 hc0
  unfold impl_ValidTrace.f at h
  by_cases c2 : (l0.length : Int) ≤ 12
  · rw [if_pos c2] at h
    obtain ⟨t, h1, h2⟩ := Option.bind_eq_some_iff.mp h
    have H1 := Aside0.mk h1
    obtain rfl := Option.some.inj h2
    clear h h1 h2
    have c2b0 : decide ((l0.length : Int) ≤ 12) = true := decide_eq_true c2
    have c2b1 : decide (l0.length ≤ 12) = true := decide_eq_true (by omega)
    clear c2
    have eg : ∀ args w, (callFunc 29 args).run Try.prog w = .ok (.enter 29 args) w := enters_of Try.func29 (by kernel_rfl) rfl
    go_enter Try.func20, Try.ntmps20
    go_wp2_with (go_at_call 28; refine (impl_Frame_28.calls 29 #[] eg _ A0 c0 l0 t _ HR0.out HC0.out ?hp H1.out).mono ?_; (case hp => exact fun W x b _ hx => impl_ValidTrace_1.calls k x.f0 x.f1 b W hx); rintro e w' ⟨rfl, hb⟩)
    go_ret
    exact ⟨rfl, hb⟩
  · rw [if_neg c2] at h
    obtain rfl := Option.some.inj h
    clear h
    have c2b0 : decide ((l0.length : Int) ≤ 12) = false := decide_eq_false c2
    have c2b1 : decide (l0.length ≤ 12) = false := decide_eq_false (by omega)
    clear c2
    go_enter Try.func20, Try.ntmps20
    go_wp2
    go_ret
    exact ⟨rfl, Below.refl _ _⟩
def impl_Frame_23.f (l0 : List (S35)) : Option (List (S35)) := if l0.length < 5864062014805 then some l0 else none
set_option maxHeartbeats 8000000 in
set_option maxRecDepth 100000 in
theorem impl_Frame_23.calls (A0 : Option Addr) (c0 : Nat) (l0 r : List (S35)) (w : World) (hr0 : Kd.C k35 w A0 l0.length l0) (hc0 : l0.length ≤ c0) (h : impl_Frame_23.f l0 = some r) :
    Calls Try.prog 23 #[.slice A0 l0.length c0] w fun e w' => ∃ v0_ : Value, e = .returned (v0_) ∧ Kd.R k35 35 w' w.heap.size (fun _ => True) v0_ r ∧ Below w.heap.size w w' := by
  unfold impl_Frame_23.f at h
  by_cases c2 : l0.length < 5864062014805
  · rw [if_pos c2] at h
    obtain rfl := Option.some.inj h
    clear h
    have LMc2 := Aside0.mk c2
    clear c2
    have HR0 := Aside0.mk hr0
    have HC0 := Aside0.mk hc0
    clear hr0 hc0
    have HB := Aside0.mk (Below.refl w.heap.size w)
    have hq := fun (W : World) => Lib.run_eql_slice_nil (P := Try.prog) W 24 35 A0 l0.length c0 0 0 Try.underlying24
    cases A0 with
    | none =>
      obtain rfl : l0 = [] := by
        cases l0 with
        | nil => rfl
        | cons x xs =>
          obtain ⟨ad, hh, _⟩ := HR0.out.2.2 (by simp)
          cases hh
      clear hq
      have hq := fun (W : World) => Lib.run_eql_slice_nil (P := Try.prog) W 24 35 none 0 c0 0 0 Try.underlying24
      show Calls Try.prog 23 #[.slice none 0 c0] w _
      go_enter Try.func23, Try.ntmps23
      go_wp2
      go_ret
      exact ⟨_, rfl, Kd.R_nil _ _ _ _ _, Below.refl _ _⟩
    | some ad =>
      go_enter Try.func23, Try.ntmps23
      go_wp2_with (first | ((with_reducible refine gate_dst (N := 5) rfl ?_); refine Kd.R_lit k35 _ 35 ?hg (N := 5) ?hd (xs := ([] : List (S35))) (inner := []) (ok := fun _ => True) (okp := fun _ => True) ?hr ?hp (fun _ hk => hk) trivial (Below.refl _ _) (Nat.le_refl _) (by simp) ?_; (case hd => rfl); (case hg => rfl); (case hr => first | (go_simp; done) | (go_simp; rfl)); (case hp => exact (Reps.none _ _)); intro v185 w3 ho4 hb hg_ hnew_; clear hg_ hnew_; have n0_ := Aside0.mk (Kd.R_lower ho4 (below_size HB.out)); have n1_ := Aside0.mk (below_step HB.out hb); clear HB; have HO186 := n0_; have HB := n1_; clear n0_ n1_; clear hb ho4) | ((with_reducible refine gate_builtin (b := .append) (xs := #[.tmp 5, .tmp 6]) rfl ?_); at_builtin; refine Kd.R_append_rows k35 (w0 := w) w.heap.size rfl (.tmp 5) (.tmp 6) 24 35 (.agg #[(.string ⟨#[]⟩), (.int .i64 0)]) 24 rfl Try.underlying24 info35 rfl (by decide) (by omega) v185 [] l0 _ _ _ (fun _ => True) (fun _ => False) rfl rfl ?aO ?aR (fun _ _ h => h) (fun _ h => h.elim) ?aF ?aB ?aS ?aL ?_; (case aR => exact (Kd.C_below HR0.out HB.out)); (case aB => exact HB.out); (case aF => exact (fun _ _ => trivial)); (case aO => exact HO186.out); (case aS => exact (below_size HB.out)); (case aL => have := LMc2.out; simp; omega); intro v237 w5 ho hb hg hat; rw [List.nil_append] at ho; have n0_ := Aside0.mk (hb); have n1_ := Aside0.mk (ho); clear HB; clear HO186; have HB := n0_; have HO189 := n1_; clear n0_ n1_; clear ho hb hg hat))
      go_ret
      exact ⟨_, rfl, HO189.out, HB.out⟩
  · rw [if_neg c2] at h
    cases h
theorem impl_InnerTrace.inr {l n f : Nat} {args : Array Value} {w : World} {R : Ending → World → Prop} (h : Calls Try.prog f args w R) : CallsIn (Fence.wide.inRound l) n Try.prog f args w R := (callsIn_wide (n := n)).2 h
def impl_InnerTrace.dn (m c : Nat) : List Nat := (List.range c).map (fun j => m - 1 - j)
theorem impl_InnerTrace.dn_succ (m c : Nat) : impl_InnerTrace.dn m (c + 1) = impl_InnerTrace.dn m c ++ [m - 1 - c] := by simp [impl_InnerTrace.dn, List.range_succ]
theorem impl_InnerTrace.dn_length (m c : Nat) : (impl_InnerTrace.dn m c).length = c := by simp [impl_InnerTrace.dn]
def impl_InnerTrace.encs (l0 : List (S35)) (x : Nat) : Array Value := #[.int .i64 ((x % l0.length : Nat) : Int), .agg #[.string (rd_T35 l0 ((x % l0.length : Nat) : Int)).f0, .int .i64 (rd_T35 l0 ((x % l0.length : Nat) : Int)).f1]]
set_option maxRecDepth 100000 in
set_option maxHeartbeats 2000000 in
theorem impl_InnerTrace.back1 (n : Nat) (hn : 1 ≤ n) (l Bs : Nat) (A0 : Option Addr) (c0 : Nat) (l0 : List (S35)) (w0 W : World) (hr : Kd.C k35 w0 A0 l0.length l0) (hW : Below w0.heap.size w0 W) (hBs : w0.heap.size ≤ Bs) (J Jx : List Nat → World → Prop)
    (hY : ∀ pre x W, J pre W → pre.length < l0.length → YieldAt Fence.wide (n - 1) Try.prog l (impl_InnerTrace.encs l0 x) W fun e W' =>
      (e = .returned (.bool true) ∧ J (pre ++ [x]) W' ∧ Below (Bs + 1) W W') ∨ (e = .returned (.bool false) ∧ Jx (pre ++ [x]) W'))
    (hcell : W.cell? ⟨Bs, 0, none⟩ = some (.slice A0 l0.length c0)) (h0 : J [] W) :
    CallsIn Fence.wide n Try.prog 32 #[.func (.yield l) #[] #[], .pointer (some ⟨Bs, 0, none⟩)] W fun e W' => (∃ v, e = .returned v) ∧
      ((∃ ys, ys = impl_InnerTrace.dn l0.length l0.length ∧ J ys W') ∨ (∃ pre, (∃ k, k ≤ l0.length ∧ pre = impl_InnerTrace.dn l0.length k) ∧ Jx pre W')) := by
  have hmx := hr.2.1
  have HR := Aside0.mk hr
  have hu35 := Try.underlying35
  clear hr
  have hw0 : IntKind.i64.wrap ((l0.length : Int) - 1) = (l0.length : Int) - 1 := by rw [i64_w]; unfold wrap64; omega
  have hw1 : wrap64 ((l0.length : Int) - 1) = (l0.length : Int) - 1 := by unfold wrap64; omega
  refine callsIn_of_wp Try.func32 rfl trivial ?_ rfl
  simp only [Try.ntmps32, List.size_toArray, List.length_cons, List.length_nil, Nat.reduceAdd, Nat.reduceSub, Array.replicate_succ, Array.replicate_zero, List.push_toArray, List.append_toArray, List.nil_append, List.cons_append]
  gi_wp2
  gi_loopw [3] (fun i wr => ∃ k : Nat, k ≤ l0.length ∧ i = .int .i64 ((l0.length : Int) - 1 - k) ∧ J (impl_InnerTrace.dn l0.length k) wr ∧ Below (Bs + 1) W wr)
    (fun i _ => (intOf i + 1).toNat)
  case atStart => exact ⟨0, Nat.zero_le _, by simp [hw1], h0, Below.refl _ _⟩
  case round =>
    obtain ⟨k, hk, rfl, hJs, hnx⟩ := hrel
    have hcx : wr.cell? ⟨Bs, 0, none⟩ = some (.slice A0 l0.length c0) := (hnx.cell (p := ⟨Bs, 0, none⟩) (Nat.lt_succ_self _)).trans hcell
    by_cases hlt : k < l0.length
    · obtain ⟨j, hj⟩ : ∃ j : Nat, (l0.length : Int) - 1 - k = (j : Int) := ⟨l0.length - 1 - k, by omega⟩
      have hjn : l0.length - 1 - k = j := by omega
      have hj1 : (j : Int) < (l0.length : Int) := by omega
      have hj0 : (0 : Int) ≤ (j : Int) := by omega
      have c1 : decide ((0 : Int) ≤ (j : Int)) = true := decide_eq_true hj0
      obtain ⟨fn, tmps, assign, body, hy, hR⟩ := hY _ j wr hJs (by rw [impl_InnerTrace.dn_length]; exact hlt)
      unfold impl_InnerTrace.encs at hy
      rw [Nat.mod_eq_of_lt (show j < l0.length by omega)] at hy
      obtain ⟨ad1, e1, hx0, hx1⟩ := at_T35 HR.out (j : Int) hj0 hj1
      cases e1
      have hbw : Below w0.heap.size w0 wr := hW.trans (hnx.mono (by omega))
      replace hx0 := (hbw.cell (World.block_lt_of_cell? w0 _ hx0)).trans hx0
      replace hx1 := (hbw.cell (World.block_lt_of_cell? w0 _ hx1)).trans hx1
      simp only [Int.toNat_natCast] at hx0 hx1
      rw [hj]
      have hw2 : IntKind.i64.wrap ((j : Int) - 1) = (j : Int) - 1 := by rw [i64_w]; unfold wrap64; omega
      have hw3 : wrap64 ((j : Int) - 1) = (j : Int) - 1 := by unfold wrap64; omega
      have hj2 : (0 ≤ (j : Int)) = True := eq_true hj0
      have hj3 : ((j : Int) < (l0.length : Int)) = True := eq_true hj1
      have HJ := Aside0.mk hj
      have HJN := Aside0.mk hjn
      have HLT := Aside0.mk hlt
      have HK := Aside0.mk hk
      clear hj hjn hlt hk
      gi_wp2
      refine hR.mono ?_
      rintro e W3 (⟨rfl, hJ3, hk3⟩ | ⟨rfl, hJx3⟩)
      · gi_wp2
        go_roundw
        case rel => exact ⟨k + 1, by have := HLT.out; omega, by have := HJ.out; congr 1; omega, by rw [impl_InnerTrace.dn_succ, HJN.out]; exact hJ3, hnx.trans hk3⟩
        case measure => simp only [intOf]; omega
      · gi_wp2
        refine bodyPost_ret (results_none rfl _ _ _) rfl ?_
        exact ⟨⟨_, rfl⟩, .inr ⟨_, ⟨k + 1, by have := HLT.out; omega, by rw [impl_InnerTrace.dn_succ, HJN.out]⟩, hJx3⟩⟩
    · obtain rfl : k = l0.length := by omega
      have hj : (l0.length : Int) - 1 - (l0.length : Int) = -1 := by omega
      rw [hj]
      gi_wp2
      go_end0
      exact ⟨⟨_, rfl⟩, .inl ⟨_, rfl, hJs⟩⟩
set_option maxRecDepth 100000 in
set_option maxHeartbeats 2000000 in
theorem impl_InnerTrace.backward (A0 : Option Addr) (n c : Nat) (W : World) :
    Calls Try.prog 21 #[.slice A0 n c] W fun e W' => e = .returned (.func (.func 32) #[] #[.pointer (some ⟨W.heap.size, 0, none⟩)]) ∧ W' = W.alloc (.cells #[.slice A0 n c] 24) := by
  go_enter Try.func21, Try.ntmps21
  go_wp2
  go_ret
  exact ⟨rfl, rfl⟩
set_option maxRecDepth 100000 in
set_option maxHeartbeats 2000000 in
theorem impl_InnerTrace.clip (A0 : Option Addr) (n c : Nat) (hc : n ≤ c) (w : World) :
    Calls Try.prog 22 #[.slice A0 n c] w fun e w' => e = .returned (.slice A0 n n) ∧ w' = w := by
  obtain ⟨i0, hi0, _, hsz, _⟩ := info_parts info35
  have hcut := cut_clip (P := Try.prog) 24 35 .i64 .i64 Try.underlying24 hi0 A0 n c n rfl hc
  clear hi0 hsz
  go_enter Try.func22, Try.ntmps22
  go_wp2
  go_ret
  exact ⟨rfl, rfl⟩
def impl_InnerTrace.last (n : ByteArray) (l : List (S35)) : Nat → Option Nat
  | 0 => none
  | m + 1 => if (rd_T35 l (m : Int)).f0.toList = n.toList then some m else impl_InnerTrace.last n l m
def impl_InnerTrace.g (l : List (S35)) (n : ByteArray) : List (S35) × Bool := match impl_InnerTrace.last n l l.length with
  | some j => (l.drop j, true)
  | none => ([], false)
def impl_InnerTrace.f (k : Nat) (l0 : List (S35)) (a1 : ByteArray) : Option (List (S35) × Bool) := (impl_ValidTrace.f k l0).bind fun v => if v = true then (if l0.length < 5864062014805 then some (impl_InnerTrace.g l0 a1) else none) else some ([], false)
theorem impl_InnerTrace.last_none (n : ByteArray) (l : List (S35)) : ∀ (m : Nat), (∀ j : Nat, j < m → (rd_T35 l (j : Int)).f0.toList ≠ n.toList) → impl_InnerTrace.last n l m = none
  | 0, _ => rfl
  | m + 1, h => by
    rw [impl_InnerTrace.last, if_neg (h m (by omega))]
    exact impl_InnerTrace.last_none n l m (fun j hj => h j (by omega))
theorem impl_InnerTrace.last_some (n : ByteArray) (l : List (S35)) (j : Nat) (he : (rd_T35 l (j : Int)).f0.toList = n.toList) : ∀ (m : Nat), j < m → (∀ i : Nat, j < i → i < m → (rd_T35 l (i : Int)).f0.toList ≠ n.toList) → impl_InnerTrace.last n l m = some j
  | 0, h, _ => by omega
  | m + 1, h, hi => by
    rw [impl_InnerTrace.last]
    by_cases q : m = j
    · subst q; rw [if_pos he]
    · rw [if_neg (hi m (by omega) (by omega))]
      exact impl_InnerTrace.last_some n l j he m (by omega) (fun i h1 h2 => hi i h1 (by omega))
theorem impl_InnerTrace.dn_mem {m c j : Nat} (hc : c ≤ m) : j ∈ impl_InnerTrace.dn m c ↔ (m - c ≤ j ∧ j < m) := by
  unfold impl_InnerTrace.dn
  rw [List.mem_map]
  constructor
  · rintro ⟨i, hi, rfl⟩
    rw [List.mem_range] at hi
    omega
  · rintro ⟨h1, h2⟩
    exact ⟨m - 1 - j, by rw [List.mem_range]; omega, by omega⟩
theorem impl_InnerTrace.R_own {W W' : World} {row : Option Nat} {base : Nat} {ok : Nat → Prop} {v : Value} {xs : List (S35)} (h : Kd.R k35 35 W base ok v xs) (hg : W.grownBy W' row) (hrow : ∀ r, row = some r → ∃ o : Obj, W.heap[r]? = some o ∧ o.isCells = false) : Kd.R k35 35 W' base ok v xs :=
  Kd.R_mono (Kd.R_move (Kd.R_bound h) (fun k hk => by
    obtain ⟨_, _, _, q, _, cells, hc⟩ := hk
    exact grownBy_keeps_cells hg hrow hc rfl)) (fun k hk => hk.1)
attribute [local go_sem] Oper.semAt_some in
set_option maxHeartbeats 8000000 in
set_option maxRecDepth 100000 in
theorem impl_InnerTrace.calls (k : Nat) (A0 : Option Addr) (c0 : Nat) (l0 : List (S35)) (a1 : ByteArray) (r1 : List (S35)) (r2 : Bool) (w : World) (hr0 : Kd.C k35 w A0 l0.length l0) (hc0 : l0.length ≤ c0) (h : impl_InnerTrace.f k l0 a1 = some (r1, r2)) :
    Calls Try.prog 8 #[.slice A0 l0.length c0, .string a1] w fun e w' => ∃ v0_ : Value, e = .returned (.tuple #[v0_, .bool r2]) ∧ Kd.R k35 35 w' w.heap.size (fun _ => True) v0_ r1 ∧ Below w.heap.size w w' := by
  have hu35 := Try.underlying35
  have HR := Aside0.mk hr0
  have HC := Aside0.mk hc0
  have hmx := hr0.2.1
  clear hr0 hc0
  unfold impl_InnerTrace.f at h
  obtain ⟨v, h1, h2⟩ := Option.bind_eq_some_iff.mp h
  clear h
  have H1 := Aside0.mk h1
  clear h1
  obtain ⟨w0, hw0⟩ : ∃ w0, (((w.alloc (.cells #[.slice A0 l0.length c0] 24)).alloc (.cells #[.string a1] 9)).alloc (.cells #[.slice none 0 0] 24)).alloc (.cells #[.bool false] 4) = w0 := ⟨_, rfl⟩
  have HB := Aside0.mk (show Below w.heap.size w w0 by rw [← hw0]; exact below_alloc (below_alloc (below_alloc (below_alloc (Below.refl w.heap.size w) _) _) _) _)
  have hsz : w0.heap.size = w.heap.size + 4 := by rw [← hw0]; simp
  have BL : Boxed w0 w.heap.size 24 (.slice A0 l0.length c0) := by rw [← hw0]; exact (((Boxed.new w _ _).alloc _).alloc _).alloc _
  have BN : Boxed w0 (w.heap.size + 1) 9 (.string a1) := by
    rw [← hw0]
    have := Boxed.new (w.alloc (.cells #[.slice A0 l0.length c0] 24)) 9 (.string a1)
    rw [World.size_alloc] at this
    exact (this.alloc _).alloc _
  have BR : Boxed w0 (w.heap.size + 1 + 1) 24 (.slice none 0 0) := by
    rw [← hw0]
    have := Boxed.new ((w.alloc (.cells #[.slice A0 l0.length c0] 24)).alloc (.cells #[.string a1] 9)) 24 (.slice none 0 0)
    rw [World.size_alloc, World.size_alloc] at this
    exact this.alloc _
  have BT : Boxed w0 (w.heap.size + 1 + 1 + 1) 4 (.bool false) := by
    rw [← hw0]
    have := Boxed.new (((w.alloc (.cells #[.slice A0 l0.length c0] 24)).alloc (.cells #[.string a1] 9)).alloc (.cells #[.slice none 0 0] 24)) 4 (.bool false)
    rw [World.size_alloc, World.size_alloc, World.size_alloc] at this
    exact this
  have bl1 := BL.cell
  have BLA := Aside0.mk BL
  have BNA := Aside0.mk BN
  have BRA := Aside0.mk BR
  have BTA := Aside0.mk BT
  clear BL BN BR BT
  cases v with
  | false =>
    rw [if_neg (by decide)] at h2
    have h2 := Prod.mk.inj (Option.some.inj h2)
    obtain ⟨rfl, rfl⟩ := h2
    go_enter Try.func8, Try.ntmps8
    go_wp2_with (go_at_call 20; refine (impl_ValidTrace.calls k A0 c0 l0 false _ (Kd.C_below HR.out HB.out) HC.out H1.out).mono ?_; rintro e w1 ⟨rfl, hb⟩; have BR1 := (show Boxed w1 _ _ _ from (hb.block _ BRA.out.lt).trans BRA.out); have BT1 := (show Boxed w1 _ _ _ from (hb.block _ BTA.out.lt).trans BTA.out); have br2 := BR1.cell; have br3 := BR1.frozen; have bt2 := BT1.cell; have bt3 := BT1.frozen; have HB1 := Aside0.mk hb; clear hb)
    have E1 := BR1.set (.slice none 0 0)
    have E2 := Boxed.other BT1 (B' := w.heap.size + 1 + 1) (by omega) (.slice none 0 0)
    have E3 := Boxed.other E1 (B' := w.heap.size + 1 + 1 + 1) (by omega) (.bool false)
    have E4 := E2.set (.bool false)
    have e3 := E3.cell
    have e4 := E4.cell
    refine bodyPost_ret (v := .tuple #[.slice none 0 0, .bool false]) ?_ rfl ?_
    · simp [results, Try.f8, go_sem, e3, e4]
    · refine ⟨_, rfl, Kd.R_nil _ _ _ _ _, ?_⟩
      have hb1 : Below w.heap.size w w1 := HB.out.trans (HB1.out.mono (by omega))
      exact (hb1.setCell (p := ⟨w.heap.size + 1 + 1, 0, none⟩) (by simp; omega) _).setCell (p := ⟨w.heap.size + 1 + 1 + 1, 0, none⟩) (by simp; omega) _
  | true =>
    rw [if_pos rfl] at h2
    by_cases hlim : l0.length < 5864062014805
    case neg => rw [if_neg hlim] at h2; cases h2
    rw [if_pos hlim] at h2
    have h2' := Option.some.inj h2
    clear h2
    refine (callsIn_wide (n := 9)).1 ?_
    refine callsIn_of_wp_marks Try.func8 rfl trivial ?_
    simp only [Try.ntmps8, List.size_toArray, List.length_cons, List.length_nil, Nat.reduceAdd, Nat.reduceSub, Array.replicate_succ, Array.replicate_zero, List.push_toArray, List.append_toArray, List.nil_append, List.cons_append]
    gi_wp2_with (gi_at_call 20)
    refine ⟨trivial, ?_⟩
    refine ((callsIn_wide (n := 8)).2 (impl_ValidTrace.calls k A0 c0 l0 true _ (Kd.C_below HR.out HB.out) HC.out H1.out)).mono ?_
    rintro e w1 ⟨rfl, hb⟩
    have HB1 := Aside0.mk hb
    have BL1 := (show Boxed w1 _ _ _ from (hb.block _ BLA.out.lt).trans BLA.out)
    have bl2 := BL1.cell
    clear hb
    gi_wp2_with (gi_at_call 21)
    refine ⟨trivial, ?_⟩
    refine ((callsIn_wide (n := 8)).2 (impl_InnerTrace.backward A0 l0.length c0 _)).mono ?_
    rintro e w2 ⟨rfl, rfl⟩
    gi_wp2
    have hbs : w0.heap.size ≤ w1.heap.size := HB1.out.size
    have HBW : Aside0 (Below w.heap.size w w1) := ⟨HB.out.trans (HB1.out.mono (by omega))⟩
    obtain ⟨W2, hW2⟩ : ∃ W2, w1.alloc (.cells #[.slice A0 l0.length c0] 24) = W2 := ⟨_, rfl⟩
    have hs2 : W2.heap.size = w1.heap.size + 1 := by rw [← hW2]; simp
    have HB2 : Aside0 (Below w.heap.size w W2) := ⟨by rw [← hW2]; exact HBW.out.alloc (by omega) _⟩
    have BS : Boxed W2 w1.heap.size 24 (.slice A0 l0.length c0) := by rw [← hW2]; exact Boxed.new w1 _ _
    have BL2 : Boxed W2 w.heap.size 24 (.slice A0 l0.length c0) := by rw [← hW2]; exact Boxed.alloc (show Boxed w1 _ _ _ from (HB1.out.block _ BLA.out.lt).trans BLA.out) _
    have BN2 : Boxed W2 (w.heap.size + 1) 9 (.string a1) := by rw [← hW2]; exact Boxed.alloc (show Boxed w1 _ _ _ from (HB1.out.block _ BNA.out.lt).trans BNA.out) _
    have BR2 : Boxed W2 (w.heap.size + 1 + 1) 24 (.slice none 0 0) := by rw [← hW2]; exact Boxed.alloc (show Boxed w1 _ _ _ from (HB1.out.block _ BRA.out.lt).trans BRA.out) _
    have BT2 : Boxed W2 (w.heap.size + 1 + 1 + 1) 4 (.bool false) := by rw [← hW2]; exact Boxed.alloc (show Boxed w1 _ _ _ from (HB1.out.block _ BTA.out.lt).trans BTA.out) _
    rw [hW2]
    refine wpIn_rangeFunc_ownH (F := Fence.wide) (n := 9) rfl (by decide) (gf := 32) (lb := #[.pointer (some ⟨w1.heap.size, 0, none⟩)]) rfl trivial (enters_of Try.func32 (by kernel_rfl) rfl)
      (encs := impl_InnerTrace.encs l0) (Kp := Below (w1.heap.size + 1)) (S := fun ys => ys = impl_InnerTrace.dn l0.length l0.length) (Sp := fun pre => ∃ k, k ≤ l0.length ∧ pre = impl_InnerTrace.dn l0.length k) (N := l0.length) (w0 := W2)
      (fun l J Jx W hW _ _ hY h0 => impl_InnerTrace.back1 8 (by decide) l w1.heap.size A0 c0 l0 w W HR.out (HB2.out.trans (hW.mono (by omega))) (by omega) J Jx hY ((hW.cell (p := ⟨w1.heap.size, 0, none⟩) (by simp only; omega)).trans BS.cell) h0)
      belowK_t (belowK_b (by omega)) (Below.refl _ _) (fun _ => rfl)
      (fun pre W => (∀ j ∈ pre, (rd_T35 l0 ((j % l0.length : Nat) : Int)).f0.toList ≠ a1.toList) ∧ Boxed W w.heap.size 24 (.slice A0 l0.length c0) ∧ Boxed W (w.heap.size + 1) 9 (.string a1) ∧ Boxed W (w.heap.size + 1 + 1) 24 (.slice none 0 0) ∧ Boxed W (w.heap.size + 1 + 1 + 1) 4 (.bool false) ∧ Below w.heap.size w W ∧ W2.heap.size ≤ W.heap.size)
      (fun c pre W => c = .ret ∧ ∃ pre' x v, pre = pre' ++ [x] ∧ (∀ j ∈ pre', (rd_T35 l0 ((j % l0.length : Nat) : Int)).f0.toList ≠ a1.toList) ∧ (rd_T35 l0 ((x % l0.length : Nat) : Int)).f0.toList = a1.toList ∧ Boxed W (w.heap.size + 1 + 1) 24 v ∧ Boxed W (w.heap.size + 1 + 1 + 1) 4 (.bool true) ∧ Kd.R k35 35 W w.heap.size (fun _ => True) v (l0.drop (x % l0.length)) ∧ Below w.heap.size w W ∧ W2.heap.size ≤ W.heap.size)
      ?hI ?hIx ⟨by simp, BL2, BN2, BR2, BT2, HB2.out, Nat.le_refl _⟩
      (fun x a' W => ∃ cb, a' = { tmps := #[.slice A0 l0.length c0, .string a1, .pointer (some ⟨w.heap.size, 0, none⟩), .pointer (some ⟨w.heap.size + 1, 0, none⟩), .pointer (some ⟨w.heap.size + 1 + 1, 0, none⟩), .pointer (some ⟨w.heap.size + 1 + 1 + 1, 0, none⟩), .int .i64 ((x % l0.length : Nat) : Int), .pointer (some ⟨cb, 0, none⟩), .slice A0 l0.length c0, .bool true, .bool false, .slice A0 l0.length c0, .func (.func 32) #[] #[.pointer (some ⟨w1.heap.size, 0, none⟩)], .int .i64 ((x % l0.length : Nat) : Int), .agg #[.string (rd_T35 l0 ((x % l0.length : Nat) : Int)).f0, .int .i64 (rd_T35 l0 ((x % l0.length : Nat) : Int)).f1], undef, undef, undef, undef, undef, undef, undef, undef, undef], defers := [] } ∧ W.heap[cb]? = some (.cells #[.string (rd_T35 l0 ((x % l0.length : Nat) : Int)).f0, .int .i64 (rd_T35 l0 ((x % l0.length : Nat) : Int)).f1] 35 (0, 0)))
      ?hAx ?assign ?body ?done ?stop
    case hI =>
      rintro s A B row ⟨h1, h2, h3, h4, h5, h6, h7⟩ hg hr
      have hr' := fun r e => (hr r e).2
      exact ⟨h1, (grownBy_keeps_cells hg hr' h2 rfl).trans h2, (grownBy_keeps_cells hg hr' h3 rfl).trans h3, (grownBy_keeps_cells hg hr' h4 rfl).trans h4, (grownBy_keeps_cells hg hr' h5 rfl).trans h5, h6.grown hg (Nat.le_trans (by omega) h7) (fun k e => by have := (hr k e).1; omega), Nat.le_trans h7 hg.size⟩
    case hIx =>
      rintro c s A B row ⟨rfl, pre', x, v, e1, e2, e3, e4, e5, e6, e7, e8⟩ hg hr
      have hr' := fun r e => (hr r e).2
      exact ⟨rfl, pre', x, v, e1, e2, e3, (grownBy_keeps_cells hg hr' e4 rfl).trans e4, (grownBy_keeps_cells hg hr' e5 rfl).trans e5, impl_InnerTrace.R_own e6 hg hr', e7.grown hg (Nat.le_trans (by omega) e8) (fun k e => by have := (hr k e).1; omega), Nat.le_trans e8 hg.size⟩
    case hAx =>
      rintro x a' s A B row ⟨cb, e1, e2⟩ hg hr
      exact ⟨cb, e1, (grownBy_keeps_cells hg (fun r e => (hr r e).2) e2 rfl).trans e2⟩
    case assign =>
      rintro l pre x W K ⟨h1, h2, h3, h4, h5, h6, h7⟩ hK
      unfold impl_InnerTrace.encs
      gi_wp2
      refine hK _ _ ((KeepsOthers.alloc W _).from _) ((Below.refl _ W).alloc (by omega) _) ⟨h1, h2.alloc _, h3.alloc _, h4.alloc _, h5.alloc _, h6.alloc (by have := h6.size; omega) _, by simp; omega⟩ ⟨W.heap.size, rfl, World.alloc_heap_new W _⟩
    case body =>
      rintro l pre x a' W hl _ ⟨h1, h2, h3, h4, h5, h6, h7⟩ ⟨cb, rfl, hcb⟩ hlen
      have hlp : 0 < l0.length := by omega
      obtain ⟨j, hj⟩ : ∃ j, x % l0.length = j := ⟨_, rfl⟩
      have hjl : j < l0.length := by rw [← hj]; exact Nat.mod_lt _ hlp
      rw [hj] at hcb
      rw [hj]
      have hcb0 : W.cell? ⟨cb, 0, none⟩ = some (.string (rd_T35 l0 (j : Int)).f0) := by simp [World.cell?, hcb]
      have h2c := h2.cell
      have h3c := h3.cell
      by_cases he : (rd_T35 l0 (j : Int)).f0.toList = a1.toList
      · have he1 : ((rd_T35 l0 (j : Int)).f0.toList == a1.toList) = true := beq_iff_eq.mpr he
        have hcut : ∀ W : World, (Instr.slice 24 (.slice A0 l0.length c0) (some (.int .i64 (j : Int))) none none).run Try.prog W = .ok (.slice (if c0 = j then A0 else Option.map (fun x => x.add (j * 2)) A0) (l0.length - j) (c0 - j)) W := by
          obtain ⟨i0, hi0, _, hsz, _⟩ := info_parts info35
          exact cut_from (P := Try.prog) 24 35 .i64 Try.underlying24 hi0 2 hsz A0 l0.length c0 (j : Int) (by omega) (by omega)
        have hr2 : Kd.C k35 W (if c0 = j then A0 else Option.map (fun x => x.add (j * 2)) A0) (l0.drop j).length (l0.drop j) := Kd.C_drop (m := j) (Kd.C_below HR.out h6) (by omega) HC.out
        generalize (if c0 = j then A0 else Option.map (fun x => x.add (j * 2)) A0) = Aj at hcut hr2
        have hl2 : (l0.drop j).length = l0.length - j := List.length_drop
        have hcl := impl_Frame_23.calls Aj (c0 - j) (l0.drop j) (l0.drop j) W hr2 (by rw [hl2]; have := HC.out; omega) (by unfold impl_Frame_23.f; rw [if_pos (by rw [hl2]; omega)])
        rw [hl2] at hcl
        have HCL := Aside0.mk hcl
        have HX := Aside0.mk he
        have H6 := Aside0.mk h6
        clear hr2 hcl he h6
        gi_wp2_with (gi_at_call 23)
        refine ⟨trivial, ?_⟩
        refine (impl_InnerTrace.inr HCL.out).mono ?_
        rintro e w3 ⟨v0, rfl, ho, hb3⟩
        obtain ⟨Ao, co, rfl⟩ := Kd.R_slice ho
        have hrd := Kd.R_reads' ho
        rw [hl2] at ho hrd
        have BR3 : Boxed w3 (w.heap.size + 1 + 1) 24 (.slice none 0 0) := (hb3.block _ h4.lt).trans h4
        have BT3 : Boxed w3 (w.heap.size + 1 + 1 + 1) 4 (.bool false) := (hb3.block _ h5.lt).trans h5
        have br3 := BR3.cell
        have br3f := BR3.frozen
        have bt3 := BT3.cell
        have bt3f := BT3.frozen
        have HO := Aside0.mk ho
        have HB3 := Aside0.mk hb3
        have HLE := Aside0.mk hrd.2.1
        clear ho hb3 hrd
        gi_wp2_with (gi_at_call 22)
        refine ⟨trivial, ?_⟩
        refine (impl_InnerTrace.inr (impl_InnerTrace.clip Ao (l0.length - j) co HLE.out w3)).mono ?_
        rintro e w4 ⟨rfl, rfl⟩
        gi_wp2
        have hk3 : KeepsOthers W w4 := ⟨HB3.out.size, fun k o hk _ => (HB3.out.block k (Array.getElem?_eq_some_iff.1 hk).1).trans hk⟩
        have E1 := BR3.set (.slice Ao (l0.length - j) (l0.length - j))
        have E2 := Boxed.other BT3 (B' := w.heap.size + 1 + 1) (by omega) (.slice Ao (l0.length - j) (l0.length - j))
        have E3 := Boxed.other E1 (B' := w.heap.size + 1 + 1 + 1) (by omega) (.bool true)
        have E4 := E2.set (.bool true)
        have hR1 : Kd.R k35 35 w4 W.heap.size (fun k => W.heap.size ≤ k) (.slice Ao (l0.length - j) (l0.length - j)) (l0.drop j) := Kd.R_mono (Kd.R_bound (Kd.R_clip HO.out (Nat.le_of_eq hl2) HLE.out)) (fun k hk => hk.2.1)
        have hR2 := Kd.R_far hR1 (p := ⟨w.heap.size + 1 + 1, 0, none⟩) (fun k hk => by simp only; omega) (.slice Ao (l0.length - j) (l0.length - j))
        have hR3 := Kd.R_far hR2 (p := ⟨w.heap.size + 1 + 1 + 1, 0, none⟩) (fun k hk => by simp only; omega) (.bool true)
        have hB4 : Below w.heap.size w w4 := H6.out.trans (HB3.out.mono (by have := H6.out.size; omega))
        refine ⟨((hk3.trans (KeepsOthers.setCell _ _ _)).trans (KeepsOthers.setCell _ _ _)).from _, rfl, pre, x, _, rfl, h1, by rw [hj]; exact HX.out, E3, E4, ?_, (hB4.setCell (p := ⟨w.heap.size + 1 + 1, 0, none⟩) (by simp; omega) _).setCell (p := ⟨w.heap.size + 1 + 1 + 1, 0, none⟩) (by simp; omega) _, Nat.le_trans h7 (((hk3.trans (KeepsOthers.setCell _ _ _)).trans (KeepsOthers.setCell _ _ _)).size)⟩
        rw [hj]
        exact Kd.R_lower (Kd.R_mono hR3 (fun _ _ => trivial)) H6.out.size
      · have he1 : ((rd_T35 l0 (j : Int)).f0.toList == a1.toList) = false := beq_eq_false_iff_ne.mpr he
        gi_wp2
        refine ⟨KeepsFrom.refl _ _, Below.refl _ _, ⟨fun q hq => ?_, h2, h3, h4, h5, h6, h7⟩⟩
        rcases List.mem_append.1 hq with hq | hq
        · exact h1 q hq
        · obtain rfl := List.mem_singleton.1 hq
          rw [hj]
          exact he
    case done =>
      rintro D xs W hD rfl ⟨h1, h2, h3, h4, h5, h6, h7⟩ hK
      have br2 := h4.cell
      have br3 := h4.frozen
      have bt2 := h5.cell
      have bt3 := h5.frozen
      gi_wp2
      have E1 := h4.set (.slice none 0 0)
      have E2 := Boxed.other h5 (B' := w.heap.size + 1 + 1) (by omega) (.slice none 0 0)
      have E3 := Boxed.other E1 (B' := w.heap.size + 1 + 1 + 1) (by omega) (.bool false)
      have E4 := E2.set (.bool false)
      have hK' := ((KeepsOthers.setCell W ⟨w.heap.size + 1 + 1, 0, none⟩ (.slice none 0 0)).trans (KeepsOthers.setCell _ ⟨w.heap.size + 1 + 1 + 1, 0, none⟩ (.bool false))).same D _ hK rfl
      refine ⟨by simp, .inl ⟨_, _, rfl, run_takeDeferred hK', ?_⟩⟩
      have e3 := cell_kept E3.cell (grownBy_putObj' _ D (.deferred none)) (fun r e => by cases e; exact ⟨_, hK', rfl⟩)
      have e4 := cell_kept E4.cell (grownBy_putObj' _ D (.deferred none)) (fun r e => by cases e; exact ⟨_, hK', rfl⟩)
      have hg : impl_InnerTrace.g l0 a1 = ([], false) := by
        unfold impl_InnerTrace.g
        rw [impl_InnerTrace.last_none a1 l0 l0.length (fun j hj => by have := h1 j (impl_InnerTrace.dn_mem (Nat.le_refl _) |>.2 ⟨by omega, hj⟩); rwa [Nat.mod_eq_of_lt hj] at this)]
      rw [hg] at h2'
      obtain ⟨rfl, rfl⟩ := Prod.mk.inj h2'
      refine ⟨.tuple #[.slice none 0 0, .bool false], ?_, _, rfl, Kd.R_nil _ _ _ _ _, ((h6.setCell (p := ⟨w.heap.size + 1 + 1, 0, none⟩) (by simp; omega) _).setCell (p := ⟨w.heap.size + 1 + 1 + 1, 0, none⟩) (by simp; omega) _).trans (belowK_b (w := w) (Nat.le_refl _) _ D _ _ (by omega) hK' rfl rfl)⟩
      simp [results, Try.f8, go_sem, e3, e4]
    case stop =>
      rintro D c pre W hD ⟨k, hk, hpre⟩ ⟨rfl, pre', x, v, e1, e2, e3, e4, e5, e6, e7, e8⟩ hK
      gi_wp2
      refine ⟨by simp, .inl ⟨_, _, rfl, run_takeDeferred hK, ?_⟩⟩
      have c3 := cell_kept e4.cell (grownBy_putObj' _ D (.deferred none)) (fun r e => by cases e; exact ⟨_, hK, rfl⟩)
      have c4 := cell_kept e5.cell (grownBy_putObj' _ D (.deferred none)) (fun r e => by cases e; exact ⟨_, hK, rfl⟩)
      have hR := impl_InnerTrace.R_own e6 (grownBy_putObj' _ D (.deferred none)) (fun r e => by cases e; exact ⟨_, hK, rfl⟩)
      obtain ⟨k', rfl⟩ : ∃ k', k = k' + 1 := by
        cases k with
        | zero => rw [hpre] at e1; simp [impl_InnerTrace.dn] at e1
        | succ k' => exact ⟨k', rfl⟩
      rw [hpre, impl_InnerTrace.dn_succ] at e1
      obtain ⟨rfl, e9⟩ := List.append_inj' e1 rfl
      obtain rfl : l0.length - 1 - k' = x := by simpa using e9
      have hxl : l0.length - 1 - k' < l0.length := by omega
      rw [Nat.mod_eq_of_lt hxl] at e3 hR
      have hg : impl_InnerTrace.g l0 a1 = (l0.drop (l0.length - 1 - k'), true) := by
        unfold impl_InnerTrace.g
        rw [impl_InnerTrace.last_some a1 l0 (l0.length - 1 - k') e3 l0.length hxl (fun i i0 i1 => by have := e2 i (impl_InnerTrace.dn_mem (by omega) |>.2 ⟨by omega, i1⟩); rwa [Nat.mod_eq_of_lt i1] at this)]
      rw [hg] at h2'
      obtain ⟨rfl, rfl⟩ := Prod.mk.inj h2'
      refine ⟨.tuple #[v, .bool true], ?_, _, rfl, hR, e7.trans (belowK_b (w := w) (Nat.le_refl _) W D _ _ (by omega) hK rfl rfl)⟩
      simp [results, Try.f8, go_sem, c3, c4]
end Go.Proofs.Ytdjdfflpdngohaa.PT
