/- The functions that the law FnExactMatchSingles reaches: each as a Lean function, and that its call does what that function says; no conditions. -/
import Derived.Test.YtjhjabibkkhmjaaXFnExactMatchSinglesx0
import Derived.Test.YtjhjabibkkhmjaaXFnExactMatchSinglesx1
namespace Go.Proofs.Ytjhjabibkkhmjaa.XFnExactMatchSingles
open Go.RowKit Go.Proofs.YtjhjabibkkhmjaaW.PrintWords Go.Proofs.YtjhjabibkkhmjaaW.PrintLast Go.Proofs.YtjhjabibkkhmjaaW.PrintMore
attribute [local go_sem] max2_int min2_int max_two min_two max_three min_three max_four min_four   -- for this text's walks alone
set_option linter.unusedVariables false
set_option linter.unusedSimpArgs false

/-! ### spec_l03Asked: function 84 -/
def spec_l03Asked.l0 : Nat → List (S88) → Bool → Int → Option (Int)
  | 0, _, _, _ => none
  | k + 1, x0, x1, x5 => if x5 < (x0.length : Int) then (if 0 ≤ x5 then ((spec_l03Yarn.f ((rd_T88 x0 x5).f0) ((rd_T88 x0 x5).f1) ((rd_T88 x0 x5).f2)).bind fun t125 => (if t125 = true then (spec_l03Asked.l0 k x0 x1 (wrap64 (x5 + 1))) else (some 1))) else (none)) else (if x1 = true then (if (x0.length : Int) > 10 then (some 3) else (some 0)) else (some 2))
def spec_l03Asked.f (k : Nat) (l0 : List (S88)) (a1 : Bool) : Option (Int) := spec_l03Asked.l0 k l0 a1 0
theorem spec_l03Asked.mono_l : ∀ k, (∀ y0 y1 y2, LeO (spec_l03Asked.l0 k y0 y1 y2) (spec_l03Asked.l0 (k + 1) y0 y1 y2))
  | 0 => fun _ _ _ r h => by simp [spec_l03Asked.l0] at h
  | k + 1 => by
    have ih0 := spec_l03Asked.mono_l k
    · intro y0 y1 y2
      unfold spec_l03Asked.l0
      repeat' first
      | (with_reducible exact ih0 _ _ _)
      | (with_reducible exact LeO.refl _)
      | (with_reducible exact LeO.none _)
      | (with_reducible refine LeO.ite ?_ ?_)
      | (with_reducible refine LeO.bind ?_ (fun _ => ?_))
      | exact ih0 _ _ _
      | exact LeO.none _
      | refine LeO.ite ?_ ?_
      | refine LeO.bind ?_ (fun _ => ?_)
theorem spec_l03Asked.mono : ∀ a0 a1 k, LeO (spec_l03Asked.f k a0 a1) (spec_l03Asked.f (k + 1) a0 a1) := by
  intro a0 a1 k
  have ih0 := spec_l03Asked.mono_l k
  unfold spec_l03Asked.f
  repeat' first
      | (with_reducible exact ih0 _ _ _)
      | (with_reducible exact LeO.refl _)
      | (with_reducible exact LeO.none _)
      | (with_reducible refine LeO.ite ?_ ?_)
      | (with_reducible refine LeO.bind ?_ (fun _ => ?_))
      | exact ih0 _ _ _
      | exact LeO.none _
      | refine LeO.ite ?_ ?_
      | refine LeO.bind ?_ (fun _ => ?_)
set_option maxHeartbeats 8000000 in
set_option maxRecDepth 100000 in
theorem spec_l03Asked.calls (k : Nat) (A0 : Option Addr) (c0 : Nat) (l0 : List (S88)) (a1 : Bool) (r : Int) (w : World) (hr0 : Kd.C k88 w A0 l0.length l0) (hc0 : l0.length ≤ c0) (h : spec_l03Asked.f k l0 a1 = some r) :
    Calls Try.prog 84 #[.slice A0 l0.length c0, .bool a1] w fun e w' => e = .returned (.int .i64 r) ∧ Below w.heap.size w w' := by
  have hu88 := Try.underlying88
  have HR0 := Aside0.mk hr0
  have HC0 := Aside0.mk hc0
  clear hr0 hc0
  have HB := Aside0.mk (Below.refl w.heap.size w)
  have H : (spec_l03Asked.l0 k l0 a1 0) = some r := h
  clear h
  have H' := Aside0.mk H
  clear H
  go_enter Try.func84, Try.ntmps84
  go_wp2
  go_loopg [5] k (fun kq v5 w' => ∃ (x5_1 : Int), v5 = .int .i64 x5_1 ∧ Aside0 (spec_l03Asked.l0 kq l0 a1 x5_1 = some r) ∧ Aside0 (kq ≤ k) ∧ Aside0 (Below w.heap.size w w'))
  case atStart => exact ⟨(0), (by first | rfl | (simp; done) | (simp [*]; done)), H', ⟨Nat.le_refl _⟩, ⟨by repeat (first | (with_reducible first | exact HB.out | apply below_alloc | apply pw_below_drewN | apply below_drew1) | exact HB.out)⟩⟩
  case round =>
    clear H'
    try clear p2
    obtain ⟨x5_1, rfl, HA, HK1, HB⟩ := hrel
    cases gk with
    | zero => exact absurd HA.out (by simp [spec_l03Asked.l0])
    | succ k1 =>
      have H := HA.out
      clear HA
      simp only [spec_l03Asked.l0] at H
      by_cases c3 : x5_1 < (l0.length : Int)
      · rw [if_pos c3] at H
        have c3b0 : decide (x5_1 < (l0.length : Int)) = true := decide_eq_true c3
        clear c3
        by_cases c4 : 0 ≤ x5_1
        · rw [if_pos c4] at H
          have c4b0 : decide (0 ≤ x5_1) = true := decide_eq_true c4
          clear c4
          replace H := Option.bind_eq_some_iff.mp H
          obtain ⟨t125, A50, H⟩ := H
          replace H : (if t125 = true then (spec_l03Asked.l0 k1 l0 a1 (wrap64 (x5_1 + 1))) else (some 1)) = some r := H
          have A5 := Aside0.mk A50
          clear A50
          by_cases c6 : t125 = true
          · subst c6
            have H1 : (spec_l03Asked.l0 k1 l0 a1 (wrap64 (x5_1 + 1))) = some r := by rw [if_pos rfl] at H; exact H
            clear H
            have H := H1
            clear H1
            have H' := Aside0.mk H
            clear H
            have p124 : 0 ≤ (x5_1 : Int) := of_decide_eq_true (by first | (with_reducible assumption) | assumption)
            have q124 : x5_1 < (l0.length : Int) := of_decide_eq_true (by first | (with_reducible assumption) | assumption)
            obtain ⟨ad124, e124, hx124_0, hx124_1, hx124_2⟩ := at_T88 HR0.out x5_1 p124 q124
            cases e124
            replace hx124_0 := (HB.out.cell (World.block_lt_of_cell? w _ hx124_0)).trans hx124_0
            replace hx124_1 := (HB.out.cell (World.block_lt_of_cell? w _ hx124_1)).trans hx124_1
            replace hx124_2 := (HB.out.cell (World.block_lt_of_cell? w _ hx124_2)).trans hx124_2
            replace p124 := eq_true p124
            replace q124 := eq_true q124
            go_wp2_with (first | ((with_reducible refine gate_callee (f := 147) rfl ?_); refine goesL_ (some 16) rfl rfl Try.func147 (by kernel_rfl) rfl #[.agg #[.int .i16 ((rd_T88 l0 x5_1).f0), .int .i16 ((rd_T88 l0 x5_1).f1), .int .i16 ((rd_T88 l0 x5_1).f2)]] rfl (by (try simp only [List.map_toArray, List.map_cons, List.map_nil]); first | done | rfl | (simp only [List.length_drop, List.length_take]; rfl)) ?_; (with_reducible refine (spec_l03Yarn.calls ((rd_T88 l0 x5_1).f0) ((rd_T88 l0 x5_1).f1) ((rd_T88 l0 x5_1).f2) true _ A5.out).mono ?_); rintro e w7 ⟨rfl, hb⟩; refine ⟨_, rfl, ?_⟩; have n0_ := Aside0.mk (below_step (by repeat (first | (with_reducible first | exact HB.out | apply below_alloc | apply pw_below_drewN | apply below_drew1) | exact HB.out)) hb); clear HB; have HB := n0_; clear n0_; (try clear hb); (try clear hb2); (try clear hk); (try clear hi)))
            go_roundg k1
            case measure => have := HK1.out; omega
            case rel => exact ⟨(wrap64 (x5_1 + 1)), (by first | rfl | (simp; done) | (simp [*]; done)), H', ⟨by have := HK1.out; omega⟩, ⟨by repeat (first | (with_reducible first | exact HB.out | apply below_alloc | apply pw_below_drewN | apply below_drew1) | exact HB.out)⟩⟩
          · replace c6 := Bool.eq_false_iff.mpr c6
            subst c6
            have H1 : (some 1) = some r := by rw [if_neg (show ¬ (false = true) by decide)] at H; exact H
            clear H
            have H := H1
            clear H1
            obtain rfl := Option.some.inj H
            have p124 : 0 ≤ (x5_1 : Int) := of_decide_eq_true (by first | (with_reducible assumption) | assumption)
            have q124 : x5_1 < (l0.length : Int) := of_decide_eq_true (by first | (with_reducible assumption) | assumption)
            obtain ⟨ad124, e124, hx124_0, hx124_1, hx124_2⟩ := at_T88 HR0.out x5_1 p124 q124
            cases e124
            replace hx124_0 := (HB.out.cell (World.block_lt_of_cell? w _ hx124_0)).trans hx124_0
            replace hx124_1 := (HB.out.cell (World.block_lt_of_cell? w _ hx124_1)).trans hx124_1
            replace hx124_2 := (HB.out.cell (World.block_lt_of_cell? w _ hx124_2)).trans hx124_2
            replace p124 := eq_true p124
            replace q124 := eq_true q124
            go_wp2_with (first | ((with_reducible refine gate_callee (f := 147) rfl ?_); refine goesL_ (some 16) rfl rfl Try.func147 (by kernel_rfl) rfl #[.agg #[.int .i16 ((rd_T88 l0 x5_1).f0), .int .i16 ((rd_T88 l0 x5_1).f1), .int .i16 ((rd_T88 l0 x5_1).f2)]] rfl (by (try simp only [List.map_toArray, List.map_cons, List.map_nil]); first | done | rfl | (simp only [List.length_drop, List.length_take]; rfl)) ?_; (with_reducible refine (spec_l03Yarn.calls ((rd_T88 l0 x5_1).f0) ((rd_T88 l0 x5_1).f1) ((rd_T88 l0 x5_1).f2) false _ A5.out).mono ?_); rintro e w8 ⟨rfl, hb⟩; refine ⟨_, rfl, ?_⟩; have n0_ := Aside0.mk (below_step (by repeat (first | (with_reducible first | exact HB.out | apply below_alloc | apply pw_below_drewN | apply below_drew1) | exact HB.out)) hb); clear HB; have HB := n0_; clear n0_; (try clear hb); (try clear hb2); (try clear hk); (try clear hi)))
            go_ret
            exact ⟨by first | rfl | (simp [errW_none, errW_some] <;> rfl) | (simp [*, errW_none, errW_some] <;> rfl), by repeat (first | (with_reducible first | exact HB.out | apply below_alloc | apply pw_below_drewN | apply below_drew1) | exact HB.out)⟩
        · rw [if_neg c4] at H
          exact absurd H (by simp)
      · rw [if_neg c3] at H
        have c3b0 : decide (x5_1 < (l0.length : Int)) = false := decide_eq_false c3
        clear c3
        by_cases c9 : a1 = true
        · subst c9
          have H1 : (if (l0.length : Int) > 10 then (some 3) else (some 0)) = some r := by rw [if_pos rfl] at H; exact H
          clear H
          have H := H1
          clear H1
          by_cases c10 : (l0.length : Int) > 10
          · rw [if_pos c10] at H
            have c10b0 : decide (10 < (l0.length : Int)) = true := decide_eq_true c10
            have c10b1 : decide (10 < l0.length) = true := decide_eq_true (by omega)
            clear c10
            obtain rfl := Option.some.inj H
            go_wp2
            go_ret
            exact ⟨by first | rfl | (simp [errW_none, errW_some] <;> rfl) | (simp [*, errW_none, errW_some] <;> rfl), by repeat (first | (with_reducible first | exact HB.out | apply below_alloc | apply pw_below_drewN | apply below_drew1) | exact HB.out)⟩
          · rw [if_neg c10] at H
            have c10b0 : decide (10 < (l0.length : Int)) = false := decide_eq_false c10
            have c10b1 : decide (10 < l0.length) = false := decide_eq_false (by omega)
            clear c10
            obtain rfl := Option.some.inj H
            go_wp2
            go_ret
            exact ⟨by first | rfl | (simp [errW_none, errW_some] <;> rfl) | (simp [*, errW_none, errW_some] <;> rfl), by repeat (first | (with_reducible first | exact HB.out | apply below_alloc | apply pw_below_drewN | apply below_drew1) | exact HB.out)⟩
        · replace c9 := Bool.eq_false_iff.mpr c9
          subst c9
          have H1 : (some 2) = some r := by rw [if_neg (show ¬ (false = true) by decide)] at H; exact H
          clear H
          have H := H1
          clear H1
          obtain rfl := Option.some.inj H
          go_wp2
          go_ret
          exact ⟨by first | rfl | (simp [errW_none, errW_some] <;> rfl) | (simp [*, errW_none, errW_some] <;> rfl), by repeat (first | (with_reducible first | exact HB.out | apply below_alloc | apply pw_below_drewN | apply below_drew1) | exact HB.out)⟩

/-! ### spec_l00Max: function 148 -/
def spec_l00Max.f (a0 : Int) (a1 : Int) : Option (Int) := if a0 > a1 then (some a0) else (some a1)
set_option maxHeartbeats 8000000 in
set_option maxRecDepth 100000 in
theorem spec_l00Max.calls (a0 : Int) (a1 : Int) (r : Int) (w : World) (h : spec_l00Max.f a0 a1 = some r) :
    Calls Try.prog 148 #[.int .i64 a0, .int .i64 a1] w fun e w' => e = .returned (.int .i64 r) ∧ Drawn0 w w' := by
  have H : (if a0 > a1 then (some a0) else (some a1)) = some r := h
  clear h
  by_cases c3 : a0 > a1
  · rw [if_pos c3] at H
    have c3b0 : decide (a1 < a0) = true := decide_eq_true c3
    clear c3
    obtain rfl := Option.some.inj H
    go_enter Try.func148, Try.ntmps148
    go_wp2
    go_ret
    exact ⟨by first | rfl | (simp; done) | (simp [*]; done), by repeat (first | exact Drawn0.refl _ | apply Drawn0.step)⟩
  · rw [if_neg c3] at H
    have c3b0 : decide (a1 < a0) = false := decide_eq_false c3
    clear c3
    obtain rfl := Option.some.inj H
    go_enter Try.func148, Try.ntmps148
    go_wp2
    go_ret
    exact ⟨by first | rfl | (simp; done) | (simp [*]; done), by repeat (first | exact Drawn0.refl _ | apply Drawn0.step)⟩

/-! ### spec_l01Size: function 177 -/
def spec_l01Size.f (a0 : Int) : Option (Int) := (spec_l00Max.f a0 (wrap64 (-a0))).bind fun t126 => (some t126)
set_option maxHeartbeats 8000000 in
set_option maxRecDepth 100000 in
theorem spec_l01Size.calls (a0 : Int) (r : Int) (w : World) (h : spec_l01Size.f a0 = some r) :
    Calls Try.prog 177 #[.int .i64 a0] w fun e w' => e = .returned (.int .i64 r) ∧ Drawn0 w w' := by
  have H : ((spec_l00Max.f a0 (wrap64 (-a0))).bind fun t126 => (some t126)) = some r := h
  clear h
  replace H := Option.bind_eq_some_iff.mp H
  obtain ⟨t126, A20, H⟩ := H
  replace H : (some t126) = some r := H
  have A2 := Aside0.mk A20
  clear A20
  obtain rfl := Option.some.inj H
  go_enter Try.func177, Try.ntmps177
  go_wp2_with (first | ((with_reducible refine gate_callee (f := 148) rfl ?_); refine goesL_ (some 6) rfl rfl Try.func148 (by kernel_rfl) rfl #[.int .i64 a0, .int .i64 (wrap64 (-a0))] rfl (by (try simp only [List.map_toArray, List.map_cons, List.map_nil]); first | done | rfl | (simp only [List.length_drop, List.length_take]; rfl)) ?_; (with_reducible refine (spec_l00Max.calls a0 (wrap64 (-a0)) t126 _ A2.out).mono ?_); rintro e w' ⟨rfl, ⟨nd, rfl⟩⟩; refine ⟨_, rfl, ?_⟩))
  go_ret
  exact ⟨by first | rfl | (simp; done) | (simp [*]; done), by repeat (first | exact Drawn0.refl _ | apply Drawn0.step)⟩

/-! ### spec_l03Rest: function 131 -/
def spec_l03Rest.l0 : Nat → List (S88) → Int → Int → Int → Option (Int)
  | 0, _, _, _, _ => none
  | k + 1, x0, x1, x5, x6 => if x6 < (x0.length : Int) then (if 0 ≤ x6 then ((spec_l01Size.f (wrap64 ((wrap64 ((rd_T88 x0 x6).f1)) + x1))).bind fun t128 => (spec_l03Rest.l0 k x0 x1 (wrap64 (x5 + t128)) (wrap64 (x6 + 1)))) else (none)) else (some x5)
def spec_l03Rest.f (k : Nat) (l0 : List (S88)) (a1 : Int) : Option (Int) := spec_l03Rest.l0 k l0 a1 0 0
theorem spec_l03Rest.mono_l : ∀ k, (∀ y0 y1 y2 y3, LeO (spec_l03Rest.l0 k y0 y1 y2 y3) (spec_l03Rest.l0 (k + 1) y0 y1 y2 y3))
  | 0 => fun _ _ _ _ r h => by simp [spec_l03Rest.l0] at h
  | k + 1 => by
    have ih0 := spec_l03Rest.mono_l k
    · intro y0 y1 y2 y3
      unfold spec_l03Rest.l0
      repeat' first
      | (with_reducible exact ih0 _ _ _ _)
      | (with_reducible exact LeO.refl _)
      | (with_reducible exact LeO.none _)
      | (with_reducible refine LeO.ite ?_ ?_)
      | (with_reducible refine LeO.bind ?_ (fun _ => ?_))
      | exact ih0 _ _ _ _
      | exact LeO.none _
      | refine LeO.ite ?_ ?_
      | refine LeO.bind ?_ (fun _ => ?_)
theorem spec_l03Rest.mono : ∀ a0 a1 k, LeO (spec_l03Rest.f k a0 a1) (spec_l03Rest.f (k + 1) a0 a1) := by
  intro a0 a1 k
  have ih0 := spec_l03Rest.mono_l k
  unfold spec_l03Rest.f
  repeat' first
      | (with_reducible exact ih0 _ _ _ _)
      | (with_reducible exact LeO.refl _)
      | (with_reducible exact LeO.none _)
      | (with_reducible refine LeO.ite ?_ ?_)
      | (with_reducible refine LeO.bind ?_ (fun _ => ?_))
      | exact ih0 _ _ _ _
      | exact LeO.none _
      | refine LeO.ite ?_ ?_
      | refine LeO.bind ?_ (fun _ => ?_)
set_option maxHeartbeats 8000000 in
set_option maxRecDepth 100000 in
theorem spec_l03Rest.calls (k : Nat) (A0 : Option Addr) (c0 : Nat) (l0 : List (S88)) (a1 : Int) (r : Int) (w : World) (hr0 : Kd.C k88 w A0 l0.length l0) (hc0 : l0.length ≤ c0) (h : spec_l03Rest.f k l0 a1 = some r) :
    Calls Try.prog 131 #[.slice A0 l0.length c0, .int .i64 a1] w fun e w' => e = .returned (.int .i64 r) ∧ Drawn0 w w' := by
  have HR0 := Aside0.mk hr0
  have HC0 := Aside0.mk hc0
  clear hr0 hc0
  have H : (spec_l03Rest.l0 k l0 a1 0 0) = some r := h
  clear h
  have H' := Aside0.mk H
  clear H
  go_enter Try.func131, Try.ntmps131
  go_wp2
  go_loopg [5, 6] k (fun kq v5 v6 w' => ∃ (x5_1 : Int) (x6_1 : Int), v5 = .int .i64 x5_1 ∧ v6 = .int .i64 x6_1 ∧ Aside0 (spec_l03Rest.l0 kq l0 a1 x5_1 x6_1 = some r) ∧ Aside0 (kq ≤ k) ∧ Drawn0 w w')
  case atStart => exact ⟨(0), (0), (by first | rfl | (simp; done) | (simp [*]; done)), (by first | rfl | (simp; done) | (simp [*]; done)), H', ⟨Nat.le_refl _⟩, by repeat (first | exact Drawn0.refl _ | apply Drawn0.step)⟩
  case round =>
    clear H'
    try clear c1
    try clear p2
    obtain ⟨x5_1, x6_1, rfl, rfl, HA, HK1, ⟨m1, rfl⟩⟩ := hrel
    cases gk with
    | zero => exact absurd HA.out (by simp [spec_l03Rest.l0])
    | succ k1 =>
      have H := HA.out
      clear HA
      simp only [spec_l03Rest.l0] at H
      by_cases c3 : x6_1 < (l0.length : Int)
      · rw [if_pos c3] at H
        have c3b0 : decide (x6_1 < (l0.length : Int)) = true := decide_eq_true c3
        clear c3
        by_cases c4 : 0 ≤ x6_1
        · rw [if_pos c4] at H
          have c4b0 : decide (0 ≤ x6_1) = true := decide_eq_true c4
          clear c4
          replace H := Option.bind_eq_some_iff.mp H
          obtain ⟨t128, A50, H⟩ := H
          replace H : (spec_l03Rest.l0 k1 l0 a1 (wrap64 (x5_1 + t128)) (wrap64 (x6_1 + 1))) = some r := H
          have A5 := Aside0.mk A50
          clear A50
          have H' := Aside0.mk H
          clear H
          have p127 : 0 ≤ (x6_1 : Int) := of_decide_eq_true (by first | (with_reducible assumption) | assumption)
          have q127 : x6_1 < (l0.length : Int) := of_decide_eq_true (by first | (with_reducible assumption) | assumption)
          obtain ⟨ad127, e127, hx127_0, hx127_1, hx127_2⟩ := at_T88 HR0.out x6_1 p127 q127
          cases e127
          replace p127 := eq_true p127
          replace q127 := eq_true q127
          go_wp2_with (first | ((with_reducible refine gate_callee (f := 177) rfl ?_); refine goesL_ (some 22) rfl rfl Try.func177 (by kernel_rfl) rfl #[.int .i64 (wrap64 ((wrap64 ((rd_T88 l0 x6_1).f1)) + a1))] rfl (by (try simp only [List.map_toArray, List.map_cons, List.map_nil]); first | done | rfl | (simp only [List.length_drop, List.length_take]; rfl)) ?_; (with_reducible refine (spec_l01Size.calls (wrap64 ((wrap64 ((rd_T88 l0 x6_1).f1)) + a1)) t128 _ A5.out).mono ?_); rintro e w' ⟨rfl, ⟨nd, rfl⟩⟩; refine ⟨_, rfl, ?_⟩))
          go_roundg k1
          case measure => have := HK1.out; omega
          case rel => exact ⟨(wrap64 (x5_1 + t128)), (wrap64 (x6_1 + 1)), (by first | rfl | (simp; done) | (simp [*]; done)), (by first | rfl | (simp; done) | (simp [*]; done)), H', ⟨by have := HK1.out; omega⟩, by repeat (first | exact Drawn0.refl _ | apply Drawn0.step)⟩
        · rw [if_neg c4] at H
          exact absurd H (by simp)
      · rw [if_neg c3] at H
        have c3b0 : decide (x6_1 < (l0.length : Int)) = false := decide_eq_false c3
        clear c3
        obtain rfl := Option.some.inj H
        go_wp2
        go_ret
        exact ⟨by first | rfl | (simp; done) | (simp [*]; done), by repeat (first | exact Drawn0.refl _ | apply Drawn0.step)⟩

/-! ### spec_l03Balance: function 100 -/
def spec_l03Balance.l0 : Nat → List (S88) → Int → Int → Int → Option (Int × Int)
  | 0, _, _, _, _ => none
  | k + 1, x0, x4, x5, x6 => if x6 ≤ 2000 then ((spec_l03Rest.f k x0 x6).bind fun t130 => (if t130 < x5 then ((spec_l03Rest.f k x0 (wrap64 (-x6))).bind fun t131 => (if t131 < t130 then (spec_l03Balance.l0 k x0 (wrap64 (-x6)) t131 (wrap64 (x6 + 1))) else (spec_l03Balance.l0 k x0 x6 t130 (wrap64 (x6 + 1))))) else ((spec_l03Rest.f k x0 (wrap64 (-x6))).bind fun t132 => (if t132 < x5 then (spec_l03Balance.l0 k x0 (wrap64 (-x6)) t132 (wrap64 (x6 + 1))) else (spec_l03Balance.l0 k x0 x4 x5 (wrap64 (x6 + 1))))))) else (some (x4, x5))
def spec_l03Balance.f (k : Nat) (l0 : List (S88)) : Option (Int × Int) := (spec_l03Rest.f k l0 0).bind fun t129 => (spec_l03Balance.l0 k l0 0 t129 1)
theorem spec_l03Balance.mono_l : ∀ k, (∀ y0 y1 y2 y3, LeO (spec_l03Balance.l0 k y0 y1 y2 y3) (spec_l03Balance.l0 (k + 1) y0 y1 y2 y3))
  | 0 => fun _ _ _ _ r h => by simp [spec_l03Balance.l0] at h
  | k + 1 => by
    have ih0 := spec_l03Balance.mono_l k
    · intro y0 y1 y2 y3
      unfold spec_l03Balance.l0
      repeat' first
      | (with_reducible exact ih0 _ _ _ _)
      | (with_reducible exact spec_l03Rest.mono _ _ _)
      | (with_reducible exact LeO.refl _)
      | (with_reducible exact LeO.none _)
      | (with_reducible refine LeO.ite ?_ ?_)
      | (with_reducible refine LeO.bind ?_ (fun _ => ?_))
      | exact ih0 _ _ _ _
      | exact spec_l03Rest.mono _ _ _
      | exact LeO.none _
      | refine LeO.ite ?_ ?_
      | refine LeO.bind ?_ (fun _ => ?_)
theorem spec_l03Balance.mono : ∀ a0 k, LeO (spec_l03Balance.f k a0) (spec_l03Balance.f (k + 1) a0) := by
  intro a0 k
  have ih0 := spec_l03Balance.mono_l k
  unfold spec_l03Balance.f
  repeat' first
      | (with_reducible exact ih0 _ _ _ _)
      | (with_reducible exact spec_l03Rest.mono _ _ _)
      | (with_reducible exact LeO.refl _)
      | (with_reducible exact LeO.none _)
      | (with_reducible refine LeO.ite ?_ ?_)
      | (with_reducible refine LeO.bind ?_ (fun _ => ?_))
      | exact ih0 _ _ _ _
      | exact spec_l03Rest.mono _ _ _
      | exact LeO.none _
      | refine LeO.ite ?_ ?_
      | refine LeO.bind ?_ (fun _ => ?_)
set_option maxHeartbeats 8000000 in
set_option maxRecDepth 100000 in
theorem spec_l03Balance.calls (k : Nat) (A0 : Option Addr) (c0 : Nat) (l0 : List (S88)) (r1 : Int) (r2 : Int) (w : World) (hr0 : Kd.C k88 w A0 l0.length l0) (hc0 : l0.length ≤ c0) (h : spec_l03Balance.f k l0 = some (r1, r2)) :
    Calls Try.prog 100 #[.slice A0 l0.length c0] w fun e w' => e = .returned (.tuple #[.int .i64 r1, .int .i64 r2]) ∧ Drawn0 w w' := by
  have HR0 := Aside0.mk hr0
  have HC0 := Aside0.mk hc0
  clear hr0 hc0
  have H : ((spec_l03Rest.f k l0 0).bind fun t129 => (spec_l03Balance.l0 k l0 0 t129 1)) = some (r1, r2) := h
  clear h
  replace H := Option.bind_eq_some_iff.mp H
  obtain ⟨t129, A20, H⟩ := H
  replace H : (spec_l03Balance.l0 k l0 0 t129 1) = some (r1, r2) := H
  have A2 := Aside0.mk A20
  clear A20
  have H' := Aside0.mk H
  clear H
  go_enter Try.func100, Try.ntmps100
  go_wp2_with (first | ((with_reducible refine gate_callee (f := 131) rfl ?_); refine goesL_ (some 10) rfl rfl Try.func131 (by kernel_rfl) rfl #[.slice A0 l0.length c0, .int .i64 0] rfl (by (try simp only [List.map_toArray, List.map_cons, List.map_nil]); first | done | rfl | (simp only [List.length_drop, List.length_take]; rfl)) ?_; (with_reducible refine (spec_l03Rest.calls k _ _ l0 0 t129 _ ?side1 ?side2 A2.out).mono ?_); (case side1 => repeat (first | exact HR0.out | (with_reducible refine Kd.C_alloc ?_ _) | (with_reducible refine Kd.C_drewN ?_ _) | (with_reducible refine Kd.C_drew ?_))); (case side2 => exact HC0.out); rintro e w' ⟨rfl, ⟨nd, rfl⟩⟩; refine ⟨_, rfl, ?_⟩))
  go_loopg [4, 5, 6] k (fun kq v4 v5 v6 w' => ∃ (x4_1 : Int) (x5_1 : Int) (x6_1 : Int), v4 = .int .i64 x4_1 ∧ v5 = .int .i64 x5_1 ∧ v6 = .int .i64 x6_1 ∧ Aside0 (spec_l03Balance.l0 kq l0 x4_1 x5_1 x6_1 = some (r1, r2)) ∧ Aside0 (kq ≤ k) ∧ Drawn0 w w')
  case atStart => exact ⟨(0), (t129), (1), (by first | rfl | (simp; done) | (simp [*]; done)), (by first | rfl | (simp; done) | (simp [*]; done)), (by first | rfl | (simp; done) | (simp [*]; done)), H', ⟨Nat.le_refl _⟩, by repeat (first | exact Drawn0.refl _ | apply Drawn0.step)⟩
  case round =>
    clear H'
    try clear c1
    try clear p2
    obtain ⟨x4_1, x5_1, x6_1, rfl, rfl, rfl, HA, HK1, ⟨m1, rfl⟩⟩ := hrel
    cases gk with
    | zero => exact absurd HA.out (by simp [spec_l03Balance.l0])
    | succ k1 =>
      have H := HA.out
      clear HA
      simp only [spec_l03Balance.l0] at H
      by_cases c3 : x6_1 ≤ 2000
      · rw [if_pos c3] at H
        have c3b0 : decide (x6_1 ≤ 2000) = true := decide_eq_true c3
        clear c3
        replace H := Option.bind_eq_some_iff.mp H
        obtain ⟨t130, A40, H⟩ := H
        replace H : (if t130 < x5_1 then ((spec_l03Rest.f k1 l0 (wrap64 (-x6_1))).bind fun t131 => (if t131 < t130 then (spec_l03Balance.l0 k1 l0 (wrap64 (-x6_1)) t131 (wrap64 (x6_1 + 1))) else (spec_l03Balance.l0 k1 l0 x6_1 t130 (wrap64 (x6_1 + 1))))) else ((spec_l03Rest.f k1 l0 (wrap64 (-x6_1))).bind fun t132 => (if t132 < x5_1 then (spec_l03Balance.l0 k1 l0 (wrap64 (-x6_1)) t132 (wrap64 (x6_1 + 1))) else (spec_l03Balance.l0 k1 l0 x4_1 x5_1 (wrap64 (x6_1 + 1)))))) = some (r1, r2) := H
        have A4 := Aside0.mk A40
        clear A40
        by_cases c5 : t130 < x5_1
        · rw [if_pos c5] at H
          have c5b0 : decide (t130 < x5_1) = true := decide_eq_true c5
          clear c5
          replace H := Option.bind_eq_some_iff.mp H
          obtain ⟨t131, A60, H⟩ := H
          replace H : (if t131 < t130 then (spec_l03Balance.l0 k1 l0 (wrap64 (-x6_1)) t131 (wrap64 (x6_1 + 1))) else (spec_l03Balance.l0 k1 l0 x6_1 t130 (wrap64 (x6_1 + 1)))) = some (r1, r2) := H
          have A6 := Aside0.mk A60
          clear A60
          by_cases c7 : t131 < t130
          · rw [if_pos c7] at H
            have c7b0 : decide (t131 < t130) = true := decide_eq_true c7
            clear c7
            have H' := Aside0.mk H
            clear H
            go_wp2_with (first | ((with_reducible refine gate_callee (f := 131) rfl ?_); refine goesL_ (some 17) rfl rfl Try.func131 (by kernel_rfl) rfl #[.slice A0 l0.length c0, .int .i64 x6_1] rfl (by (try simp only [List.map_toArray, List.map_cons, List.map_nil]); first | done | rfl | (simp only [List.length_drop, List.length_take]; rfl)) ?_; (with_reducible refine (spec_l03Rest.calls k1 _ _ l0 x6_1 t130 _ ?side1 ?side2 A4.out).mono ?_); (case side1 => repeat (first | exact HR0.out | (with_reducible refine Kd.C_alloc ?_ _) | (with_reducible refine Kd.C_drewN ?_ _) | (with_reducible refine Kd.C_drew ?_))); (case side2 => exact HC0.out); rintro e w' ⟨rfl, ⟨nd, rfl⟩⟩; refine ⟨_, rfl, ?_⟩) | ((with_reducible refine gate_callee (f := 131) rfl ?_); refine goesL_ (some 26) rfl rfl Try.func131 (by kernel_rfl) rfl #[.slice A0 l0.length c0, .int .i64 (wrap64 (-x6_1))] rfl (by (try simp only [List.map_toArray, List.map_cons, List.map_nil]); first | done | rfl | (simp only [List.length_drop, List.length_take]; rfl)) ?_; (with_reducible refine (spec_l03Rest.calls k1 _ _ l0 (wrap64 (-x6_1)) t131 _ ?side1 ?side2 A6.out).mono ?_); (case side1 => repeat (first | exact HR0.out | (with_reducible refine Kd.C_alloc ?_ _) | (with_reducible refine Kd.C_drewN ?_ _) | (with_reducible refine Kd.C_drew ?_))); (case side2 => exact HC0.out); rintro e w' ⟨rfl, ⟨nd, rfl⟩⟩; refine ⟨_, rfl, ?_⟩))
            go_roundg k1
            case measure => have := HK1.out; omega
            case rel => exact ⟨(wrap64 (-x6_1)), (t131), (wrap64 (x6_1 + 1)), (by first | rfl | (simp; done) | (simp [*]; done)), (by first | rfl | (simp; done) | (simp [*]; done)), (by first | rfl | (simp; done) | (simp [*]; done)), H', ⟨by have := HK1.out; omega⟩, by repeat (first | exact Drawn0.refl _ | apply Drawn0.step)⟩
          · rw [if_neg c7] at H
            have c7b0 : decide (t131 < t130) = false := decide_eq_false c7
            clear c7
            have H' := Aside0.mk H
            clear H
            go_wp2_with (first | ((with_reducible refine gate_callee (f := 131) rfl ?_); refine goesL_ (some 17) rfl rfl Try.func131 (by kernel_rfl) rfl #[.slice A0 l0.length c0, .int .i64 x6_1] rfl (by (try simp only [List.map_toArray, List.map_cons, List.map_nil]); first | done | rfl | (simp only [List.length_drop, List.length_take]; rfl)) ?_; (with_reducible refine (spec_l03Rest.calls k1 _ _ l0 x6_1 t130 _ ?side1 ?side2 A4.out).mono ?_); (case side1 => repeat (first | exact HR0.out | (with_reducible refine Kd.C_alloc ?_ _) | (with_reducible refine Kd.C_drewN ?_ _) | (with_reducible refine Kd.C_drew ?_))); (case side2 => exact HC0.out); rintro e w' ⟨rfl, ⟨nd, rfl⟩⟩; refine ⟨_, rfl, ?_⟩) | ((with_reducible refine gate_callee (f := 131) rfl ?_); refine goesL_ (some 26) rfl rfl Try.func131 (by kernel_rfl) rfl #[.slice A0 l0.length c0, .int .i64 (wrap64 (-x6_1))] rfl (by (try simp only [List.map_toArray, List.map_cons, List.map_nil]); first | done | rfl | (simp only [List.length_drop, List.length_take]; rfl)) ?_; (with_reducible refine (spec_l03Rest.calls k1 _ _ l0 (wrap64 (-x6_1)) t131 _ ?side1 ?side2 A6.out).mono ?_); (case side1 => repeat (first | exact HR0.out | (with_reducible refine Kd.C_alloc ?_ _) | (with_reducible refine Kd.C_drewN ?_ _) | (with_reducible refine Kd.C_drew ?_))); (case side2 => exact HC0.out); rintro e w' ⟨rfl, ⟨nd, rfl⟩⟩; refine ⟨_, rfl, ?_⟩))
            go_roundg k1
            case measure => have := HK1.out; omega
            case rel => exact ⟨(x6_1), (t130), (wrap64 (x6_1 + 1)), (by first | rfl | (simp; done) | (simp [*]; done)), (by first | rfl | (simp; done) | (simp [*]; done)), (by first | rfl | (simp; done) | (simp [*]; done)), H', ⟨by have := HK1.out; omega⟩, by repeat (first | exact Drawn0.refl _ | apply Drawn0.step)⟩
        · rw [if_neg c5] at H
          have c5b0 : decide (t130 < x5_1) = false := decide_eq_false c5
          clear c5
          replace H := Option.bind_eq_some_iff.mp H
          obtain ⟨t132, A80, H⟩ := H
          replace H : (if t132 < x5_1 then (spec_l03Balance.l0 k1 l0 (wrap64 (-x6_1)) t132 (wrap64 (x6_1 + 1))) else (spec_l03Balance.l0 k1 l0 x4_1 x5_1 (wrap64 (x6_1 + 1)))) = some (r1, r2) := H
          have A8 := Aside0.mk A80
          clear A80
          by_cases c9 : t132 < x5_1
          · rw [if_pos c9] at H
            have c9b0 : decide (t132 < x5_1) = true := decide_eq_true c9
            clear c9
            have H' := Aside0.mk H
            clear H
            go_wp2_with (first | ((with_reducible refine gate_callee (f := 131) rfl ?_); refine goesL_ (some 17) rfl rfl Try.func131 (by kernel_rfl) rfl #[.slice A0 l0.length c0, .int .i64 x6_1] rfl (by (try simp only [List.map_toArray, List.map_cons, List.map_nil]); first | done | rfl | (simp only [List.length_drop, List.length_take]; rfl)) ?_; (with_reducible refine (spec_l03Rest.calls k1 _ _ l0 x6_1 t130 _ ?side1 ?side2 A4.out).mono ?_); (case side1 => repeat (first | exact HR0.out | (with_reducible refine Kd.C_alloc ?_ _) | (with_reducible refine Kd.C_drewN ?_ _) | (with_reducible refine Kd.C_drew ?_))); (case side2 => exact HC0.out); rintro e w' ⟨rfl, ⟨nd, rfl⟩⟩; refine ⟨_, rfl, ?_⟩) | ((with_reducible refine gate_callee (f := 131) rfl ?_); refine goesL_ (some 26) rfl rfl Try.func131 (by kernel_rfl) rfl #[.slice A0 l0.length c0, .int .i64 (wrap64 (-x6_1))] rfl (by (try simp only [List.map_toArray, List.map_cons, List.map_nil]); first | done | rfl | (simp only [List.length_drop, List.length_take]; rfl)) ?_; (with_reducible refine (spec_l03Rest.calls k1 _ _ l0 (wrap64 (-x6_1)) t132 _ ?side1 ?side2 A8.out).mono ?_); (case side1 => repeat (first | exact HR0.out | (with_reducible refine Kd.C_alloc ?_ _) | (with_reducible refine Kd.C_drewN ?_ _) | (with_reducible refine Kd.C_drew ?_))); (case side2 => exact HC0.out); rintro e w' ⟨rfl, ⟨nd, rfl⟩⟩; refine ⟨_, rfl, ?_⟩))
            go_roundg k1
            case measure => have := HK1.out; omega
            case rel => exact ⟨(wrap64 (-x6_1)), (t132), (wrap64 (x6_1 + 1)), (by first | rfl | (simp; done) | (simp [*]; done)), (by first | rfl | (simp; done) | (simp [*]; done)), (by first | rfl | (simp; done) | (simp [*]; done)), H', ⟨by have := HK1.out; omega⟩, by repeat (first | exact Drawn0.refl _ | apply Drawn0.step)⟩
          · rw [if_neg c9] at H
            have c9b0 : decide (t132 < x5_1) = false := decide_eq_false c9
            clear c9
            have H' := Aside0.mk H
            clear H
            go_wp2_with (first | ((with_reducible refine gate_callee (f := 131) rfl ?_); refine goesL_ (some 17) rfl rfl Try.func131 (by kernel_rfl) rfl #[.slice A0 l0.length c0, .int .i64 x6_1] rfl (by (try simp only [List.map_toArray, List.map_cons, List.map_nil]); first | done | rfl | (simp only [List.length_drop, List.length_take]; rfl)) ?_; (with_reducible refine (spec_l03Rest.calls k1 _ _ l0 x6_1 t130 _ ?side1 ?side2 A4.out).mono ?_); (case side1 => repeat (first | exact HR0.out | (with_reducible refine Kd.C_alloc ?_ _) | (with_reducible refine Kd.C_drewN ?_ _) | (with_reducible refine Kd.C_drew ?_))); (case side2 => exact HC0.out); rintro e w' ⟨rfl, ⟨nd, rfl⟩⟩; refine ⟨_, rfl, ?_⟩) | ((with_reducible refine gate_callee (f := 131) rfl ?_); refine goesL_ (some 26) rfl rfl Try.func131 (by kernel_rfl) rfl #[.slice A0 l0.length c0, .int .i64 (wrap64 (-x6_1))] rfl (by (try simp only [List.map_toArray, List.map_cons, List.map_nil]); first | done | rfl | (simp only [List.length_drop, List.length_take]; rfl)) ?_; (with_reducible refine (spec_l03Rest.calls k1 _ _ l0 (wrap64 (-x6_1)) t132 _ ?side1 ?side2 A8.out).mono ?_); (case side1 => repeat (first | exact HR0.out | (with_reducible refine Kd.C_alloc ?_ _) | (with_reducible refine Kd.C_drewN ?_ _) | (with_reducible refine Kd.C_drew ?_))); (case side2 => exact HC0.out); rintro e w' ⟨rfl, ⟨nd, rfl⟩⟩; refine ⟨_, rfl, ?_⟩))
            go_roundg k1
            case measure => have := HK1.out; omega
            case rel => exact ⟨(x4_1), (x5_1), (wrap64 (x6_1 + 1)), (by first | rfl | (simp; done) | (simp [*]; done)), (by first | rfl | (simp; done) | (simp [*]; done)), (by first | rfl | (simp; done) | (simp [*]; done)), H', ⟨by have := HK1.out; omega⟩, by repeat (first | exact Drawn0.refl _ | apply Drawn0.step)⟩
      · rw [if_neg c3] at H
        have c3b0 : decide (x6_1 ≤ 2000) = false := decide_eq_false c3
        clear c3
        simp only [Option.some.injEq, Prod.mk.injEq] at H
        obtain ⟨rfl, rfl⟩ := H
        go_wp2
        go_ret2
        exact ⟨by first | rfl | (simp; done) | (simp [*]; done), by repeat (first | exact Drawn0.refl _ | apply Drawn0.step)⟩

/-! ### spec_l03Match_from: function 101 -/
/-- The first yarn that has no pair. -/
def spec_l03Match_from.skip : Nat → Int → Nat → Option Nat
  | 0, _, _ => none
  | k + 1, used, a => if a < 60 then (if Go.bits .and .i64 (shr .i64 used (a : Int)) 1 = 1 then spec_l03Match_from.skip k used (a + 1) else some a) else none
mutual
/-- Goes on with the first yarn that has no pair: best, least, found behind it. -/
def spec_l03Match_from.f (R : List Int) (n : Int) : Nat → List S92 → Int → Int → List S92 → Int → Bool → Option (List S92 × Int × Bool)
  | 0, _, _, _, _, _, _ => none
  | k + 1, N, used, sum, B, m, fd =>
    if fd = true ∧ sum ≥ m then some (B, m, fd)
    else if N.length ≤ 1048576 then
      (if 2 * (N.length : Int) = n then some (N, sum, true)
      else (spec_l03Match_from.skip k used 0).bind fun a => spec_l03Match_from.l0 R n k N used sum a (a + 1) B m fd)
    else none
def spec_l03Match_from.l0 (R : List Int) (n : Int) : Nat → List S92 → Int → Int → Nat → Nat → List S92 → Int → Bool → Option (List S92 × Int × Bool)
  | 0, _, _, _, _, _, _, _, _ => none
  | k + 1, N, used, sum, a, b, B, m, fd =>
    if (b : Int) < n then
      (if a < 10 ∧ b < 10 ∧ N.length ≤ 1048576 then
        (if Go.bits .and .i64 (shr .i64 used (b : Int)) 1 = 0 then
          (spec_l03Match_from.f R n k (N ++ [⟨(a : Int), (b : Int)⟩]) (Go.bits .or .i64 (Go.bits .or .i64 used (shl .i64 1 (a : Int))) (shl .i64 1 (b : Int))) (wrap64 (sum + R.getD (a * 10 + b) 0)) B m fd).bind fun r => spec_l03Match_from.l0 R n k N used sum a (b + 1) r.1 r.2.1 r.2.2
        else spec_l03Match_from.l0 R n k N used sum a (b + 1) B m fd)
      else none)
    else some (B, m, fd)
end
theorem spec_l03Match_from.mono_s : ∀ k used a, LeO (spec_l03Match_from.skip k used a) (spec_l03Match_from.skip (k + 1) used a)
  | 0, _, _ => fun r h => by simp [spec_l03Match_from.skip] at h
  | k + 1, used, a => by
    rw [spec_l03Match_from.skip, spec_l03Match_from.skip]
    repeat' first
      | exact spec_l03Match_from.mono_s k _ _
      | (with_reducible exact LeO.refl _)
      | (with_reducible refine LeO.ite ?_ ?_)
theorem spec_l03Match_from.mono_l (R : List Int) (n : Int) : ∀ k, (∀ a b c d e f, LeO (spec_l03Match_from.f R n k a b c d e f) (spec_l03Match_from.f R n (k + 1) a b c d e f)) ∧ (∀ a b c d e f g h, LeO (spec_l03Match_from.l0 R n k a b c d e f g h) (spec_l03Match_from.l0 R n (k + 1) a b c d e f g h))
  | 0 => ⟨fun _ _ _ _ _ _ r h => by simp [spec_l03Match_from.f] at h, fun _ _ _ _ _ _ _ _ r h => by simp [spec_l03Match_from.l0] at h⟩
  | k + 1 => by
    obtain ⟨ih1, ih2⟩ := spec_l03Match_from.mono_l R n k
    constructor
    · intro a b c d e f
      rw [spec_l03Match_from.f, spec_l03Match_from.f]
      repeat' first
        | exact ih2 _ _ _ _ _ _ _ _
        | exact spec_l03Match_from.mono_s _ _ _
        | (with_reducible exact LeO.refl _)
        | (with_reducible refine LeO.ite ?_ ?_)
        | (with_reducible refine LeO.bind ?_ (fun _ => ?_))
    · intro a b c d e f g h
      rw [spec_l03Match_from.l0, spec_l03Match_from.l0]
      repeat' first
        | exact ih1 _ _ _ _ _ _
        | exact ih2 _ _ _ _ _ _ _ _
        | (with_reducible exact LeO.refl _)
        | (with_reducible refine LeO.ite ?_ ?_)
        | (with_reducible refine LeO.bind ?_ (fun _ => ?_))
theorem spec_l03Match_from.info2 : (Try.prog.info? 92).map (fun i => (i.zero, i.size, i.bytes)) = some (some (.agg #[(.int .i64 0), (.int .i64 0)]), 2, 16) := by kernel_rfl
/-- The cells of the search's variable. -/
def spec_l03Match_from.cs (R : List Int) (n : Int) (vB : Value) (m : Int) (fd : Bool) : Array Value := (R.map (Value.int .i64) ++ [.int .i64 n, vB, .int .i64 m, .bool fd]).toArray
section
variable {R : List Int} {n : Int} {vB : Value} {m : Int} {fd : Bool}
theorem spec_l03Match_from.get_r (hl : R.length = 100) (i : Nat) (hi : i < 100) : (spec_l03Match_from.cs R n vB m fd)[i]? = some (.int .i64 (R.getD i 0)) := by
  unfold spec_l03Match_from.cs
  rw [List.getElem?_toArray, List.getElem?_append_left (by simp; omega), List.getElem?_map, List.getElem?_eq_getElem (by omega)]
  simp [List.getD, List.getElem?_eq_getElem (show i < R.length by omega)]
theorem spec_l03Match_from.get_t (hl : R.length = 100) (i : Nat) : (spec_l03Match_from.cs R n vB m fd)[100 + i]? = [.int .i64 n, vB, .int .i64 m, .bool fd][i]? := by
  unfold spec_l03Match_from.cs
  rw [List.getElem?_toArray, List.getElem?_append_right (by simp; omega)]
  simp [hl]
theorem spec_l03Match_from.put_t (hl : R.length = 100) (i : Nat) (v : Value) (t : List Value) (ht : [.int .i64 n, vB, .int .i64 m, .bool fd].set i v = t) : (spec_l03Match_from.cs R n vB m fd).setIfInBounds (100 + i) v = (R.map (Value.int .i64) ++ t).toArray := by
  subst ht
  unfold spec_l03Match_from.cs
  rw [List.setIfInBounds_toArray, List.set_append_right _ _ (by simp; omega)]
  simp [hl]
end
/-- The search's variable. -/
structure spec_l03Match_from.Inv (w W : World) (gw : Nat) (R : List Int) (n : Int) (B : List S92) (m : Int) (fd : Bool) (vB : Value) : Prop where
  b : Below w.heap.size w W
  g : w.heap.size ≤ gw
  rl : R.length = 100
  h : W.heap[gw]? = some (.cells (spec_l03Match_from.cs R n vB m fd) 130 (0, 0))
  rb : Kd.R k92 92 W w.heap.size (fun _ => True) vB B
section
variable {w W W' : World} {gw : Nat} {R : List Int} {n : Int} {B : List S92} {m : Int} {fd : Bool} {vB : Value}
theorem spec_l03Match_from.Inv.next (h : spec_l03Match_from.Inv w W gw R n B m fd vB) (hb : Below W.heap.size W W') : spec_l03Match_from.Inv w W' gw R n B m fd vB :=
  ⟨below_then h.b h.b.size hb, h.g, h.rl, blk_below h.h hb, Kd.R_below h.rb hb⟩
theorem spec_l03Match_from.Inv.cr (h : spec_l03Match_from.Inv w W gw R n B m fd vB) (i : Nat) (hi : i < 100) : W.cell? ⟨gw, i, none⟩ = some (.int .i64 (R.getD i 0)) := (blk_cell h.h i).trans (spec_l03Match_from.get_r h.rl i hi)
theorem spec_l03Match_from.Inv.cn (h : spec_l03Match_from.Inv w W gw R n B m fd vB) : W.cell? ⟨gw, 100, none⟩ = some (.int .i64 n) := (blk_cell h.h 100).trans (spec_l03Match_from.get_t h.rl 0)
theorem spec_l03Match_from.Inv.cb (h : spec_l03Match_from.Inv w W gw R n B m fd vB) : W.cell? ⟨gw, 101, none⟩ = some vB := (blk_cell h.h 101).trans (spec_l03Match_from.get_t h.rl 1)
theorem spec_l03Match_from.Inv.cm (h : spec_l03Match_from.Inv w W gw R n B m fd vB) : W.cell? ⟨gw, 102, none⟩ = some (.int .i64 m) := (blk_cell h.h 102).trans (spec_l03Match_from.get_t h.rl 2)
theorem spec_l03Match_from.Inv.cf (h : spec_l03Match_from.Inv w W gw R n B m fd vB) : W.cell? ⟨gw, 103, none⟩ = some (.bool fd) := (blk_cell h.h 103).trans (spec_l03Match_from.get_t h.rl 3)
/-- New best pairs are stored. -/
theorem spec_l03Match_from.Inv.store (h : spec_l03Match_from.Inv w W gw R n B m fd vB) {v2 : Value} {B2 : List S92} (hr : Kd.R k92 92 W w.heap.size (fun _ => True) v2 B2) (x : Int) :
    spec_l03Match_from.Inv w (((W.setCell ⟨gw, 101, none⟩ v2).setCell ⟨gw, 102, none⟩ (.int .i64 x)).setCell ⟨gw, 103, none⟩ (.bool true)) gw R n B2 x true v2 := by
  have mv : ∀ {V : World} {cs : Array Value} (j : Nat) (u : Value), V.heap[gw]? = some (.cells cs 130 (0, 0)) → Kd.R k92 92 V w.heap.size (fun _ => True) v2 B2 → Kd.R k92 92 (V.setCell ⟨gw, j, none⟩ u) w.heap.size (fun _ => True) v2 B2 := fun j u hb hx => Kd.R_mono (Kd.R_far (p := ⟨gw, j, none⟩) (Kd.R_types hx hb (by decide)) (fun _ hk => hk.2) _) (fun _ _ => trivial)
  have h1 := blk_put (cs' := spec_l03Match_from.cs R n v2 m fd) h.h 101 v2 (spec_l03Match_from.put_t h.rl 1 v2 _ rfl)
  have h2 := blk_put (cs' := spec_l03Match_from.cs R n v2 x fd) h1 102 (.int .i64 x) (spec_l03Match_from.put_t h.rl 2 _ _ rfl)
  have h3 := blk_put (cs' := spec_l03Match_from.cs R n v2 x true) h2 103 (.bool true) (spec_l03Match_from.put_t h.rl 3 _ _ rfl)
  exact ⟨below_set (below_set (below_set h.b h.g) h.g) h.g, h.g, h.rl, h3, mv 103 _ h2 (mv 102 _ h1 (mv 101 _ h.h hr))⟩
end
/-- A row of pairs that is read lies as it lay. -/
theorem spec_l03Match_from.keepC {W W' : World} {g : Nat} {A : Option Addr} {n : Nat} {xs : List S92} (hk : KeepBut W W' g none) (h : Kd.C k92 W A n xs) (hne : ∀ ad, A = some ad → ad.block ≠ g) : Kd.C k92 W' A n xs := by
  obtain ⟨h1, h2, h3⟩ := h
  refine ⟨h1, h2, fun hn => ?_⟩
  obtain ⟨ad, e, hc⟩ := h3 hn
  refine ⟨ad, e, fun j p hj => ?_⟩
  obtain ⟨c, a, b, d⟩ := hc j p hj
  obtain rfl := k92_open b
  exact ⟨_, a, k92_mk W' p, fun i u hi => keep_cell hk (d i u hi) (by have q := hne ad e; unfold Addr.add; split <;> exact q)⟩
/-- A literal row of one pair. -/
theorem spec_l03Match_from.lit {W : World} {h : Nat} (a b : Int) (hh : W.heap[h]? = some (.cells #[.int .i64 a, .int .i64 b] 92 (0, 0))) : Kd.C k92 W (some ⟨h, 0, none⟩) 1 [⟨a, b⟩] := by
  refine ⟨rfl, by omega, fun _ => ⟨_, rfl, fun j p hj => ?_⟩⟩
  obtain rfl : j = 0 := by
    rcases Nat.eq_zero_or_pos j with h0 | h0
    · exact h0
    · rw [List.getElem?_eq_none (by simp; omega)] at hj; cases hj
  obtain rfl : (⟨a, b⟩ : S92) = p := by simpa using hj
  refine ⟨_, rfl, k92_mk W ⟨a, b⟩, fun i u hi => ?_⟩
  have e0 := (blk_cell hh 0).trans (rfl : _ = some (Value.int .i64 a))
  have e1 := (blk_cell hh 1).trans (rfl : _ = some (Value.int .i64 b))
  match i, hi with
  | 0, hi => simp at hi; subst hi; simpa [Addr.add] using e0
  | 1, hi => simp at hi; subst hi; simpa [Addr.add, k92, Kd.iso, Kd.pair, Kd.int, Kd.scalar] using e1
  | n + 2, hi => simp at hi
theorem spec_l03Match_from.wr64 (n : Int) : IntKind.i64.wrap n = wrap64 n := by
  have e1 : (2 : Int) ^ IntKind.i64.bits = 18446744073709551616 := by decide
  have e2 : (2 : Int) ^ (IntKind.i64.bits - 1) = 9223372036854775808 := by decide
  have e3 : IntKind.i64.signed = true := rfl
  unfold IntKind.wrap wrap64
  simp only [e1, e2, e3, Bool.true_and, decide_eq_true_eq]
  split <;> omega
set_option maxHeartbeats 8000000 in
set_option maxRecDepth 100000 in
theorem spec_l03Match_from.calls (w : World) (gw : Nat) (R : List Int) (n : Int) : ∀ (k : Nat) (An : Option Addr) (cn : Nat) (N : List S92) (used sum : Int) (B : List S92) (m : Int) (fd : Bool) (vB : Value) (W : World) (r1 : List S92) (r2 : Int) (r3 : Bool), spec_l03Match_from.Inv w W gw R n B m fd vB → Kd.C k92 W An N.length N → N.length ≤ cn → (∀ ad, An = some ad → ad.block ≠ gw) → spec_l03Match_from.f R n k N used sum B m fd = some (r1, r2, r3) →
    Calls Try.prog 101 #[.pointer (some ⟨gw, 0, none⟩), .slice An N.length cn, .int .i64 used, .int .i64 sum] W fun e w' => e = .returned (.tuple #[]) ∧ KeepBut W w' gw none ∧ ∃ vB2, spec_l03Match_from.Inv w w' gw R n r1 r2 r3 vB2 := by
  intro k
  have hu1 := Try.underlying130
  induction k using Nat.strongRecOn with
  | _ k IH =>
  intro An cn N used sum B m fd vB W r1 r2 r3 hI hN hcn hne h
  cases k with
  | zero => simp [spec_l03Match_from.f] at h
  | succ k =>
    have IHa := Aside0.mk IH
    clear IH
    rw [spec_l03Match_from.f] at h
    have hqn := hI.cn
    have hqm := hI.cm
    have hqf := hI.cf
    have HI := Aside0.mk hI
    have HN := Aside0.mk hN
    have HCN := Aside0.mk hcn
    have HNE := Aside0.mk hne
    clear hI hN hcn hne
    by_cases h1 : fd = true ∧ sum ≥ m
    · rw [if_pos h1] at h
      have e := Option.some.inj h
      simp only [Prod.mk.injEq] at e
      obtain ⟨rfl, rfl, rfl⟩ := e
      obtain ⟨rfl, h1b⟩ := h1
      have d3 : decide (m ≤ sum) = true := decide_eq_true h1b
      clear h
      go_enter Try.func101, Try.ntmps101
      go_wp2
      refine bodyPost_ret (results_none rfl _ _ _) rfl ⟨rfl, KeepBut.refl _ _ _, vB, HI.out⟩
    · rw [if_neg h1] at h
      by_cases h3 : N.length ≤ 1048576
      · rw [if_pos h3] at h
        have hw2 : wrap64 (2 * (N.length : Int)) = 2 * (N.length : Int) := by unfold wrap64; omega
        have H3 := Aside0.mk h3
        by_cases h2 : 2 * (N.length : Int) = n
        · rw [if_pos h2] at h
          have e := Option.some.inj h
          simp only [Prod.mk.injEq] at e
          obtain ⟨rfl, rfl, rfl⟩ := e
          have e1 : (2 * (N.length : Int) == n) = true := beq_iff_eq.mpr h2
          have HH2 := Aside0.mk h2
          clear h h3 h2
          cases fd with
          | false =>
            clear h1
            go_enter Try.func101, Try.ntmps101
            go_wp2_with (first | ((with_reducible refine gate_dst (N := 32) rfl ?_); refine Kd.R_lit k92 _ 92 ?hg (N := 32) ?hd (xs := ([] : List S92)) (inner := []) (ok := fun _ => True) (okp := fun _ => True) ?hr ?hp (fun _ hk => hk) trivial (Below.refl _ _) (Nat.le_refl _) (by simp) ?_; (case hd => rfl); (case hg => rfl); (case hr => first | (go_simp; done) | (go_simp; rfl)); (case hp => exact (Reps.none _ _)); intro v32 w3 ho3 hb3 hg_ hnew_; have HO3 := Aside0.mk ho3; have HB3 := Aside0.mk hb3; clear ho3 hb3 hg_ hnew_) | ((with_reducible refine gate_builtin (b := .append) (xs := #[.tmp 32, .tmp 33]) rfl ?_); at_builtin; refine Kd.R_append_rows k92 (w0 := W) W.heap.size rfl (.tmp 32) (.tmp 33) 46 92 (.agg #[(.int .i64 0), (.int .i64 0)]) 16 rfl Try.underlying46 spec_l03Match_from.info2 rfl (by decide) (by omega) v32 [] N _ _ _ (fun _ => True) (fun _ => False) rfl rfl ?aO ?aR (fun _ _ h => h) (fun _ h => h.elim) ?aF ?aB ?aS ?aL ?_; (case aR => exact Kd.C_below HN.out HB3.out); (case aB => exact HB3.out); (case aF => exact (fun _ _ => trivial)); (case aO => exact HO3.out); (case aS => exact HB3.out.size); (case aL => have := H3.out; simp; omega); intro v34 w5 ho hb hg hat; rw [List.nil_append] at ho; have HI5 := Aside0.mk (HI.out.next hb); have HO5 := Aside0.mk (Kd.R_lower ho HI.out.b.size); have KP5 := Aside0.mk (KeepBut.of_below hb gw none); clear ho hb hg hat; obtain ⟨A5, c5, e5⟩ := Kd.R_slice HO5.out; subst e5; have hw2 : w5.cell? ⟨gw, 101, none⟩ = some vB := HI5.out.cb; have hw3 : w5.cell? ⟨gw, 102, none⟩ = some (.int .i64 m) := HI5.out.cm; have hw4 : w5.cell? ⟨gw, 103, none⟩ = some (.bool false) := HI5.out.cf; have hz2 := blk_frozen HI5.out.h 101; have hz3 := blk_frozen HI5.out.h 102; have hz4 := blk_frozen HI5.out.h 103))
            refine bodyPost_ret (results_none rfl _ _ _) rfl ⟨rfl, ?_, _, HI5.out.store HO5.out sum⟩
            exact ((KP5.out.set_ 101 _).set_ 102 _).set_ 103 _
          | true =>
            have hmm : ¬ m ≤ sum := fun z => h1 ⟨rfl, z⟩
            have d3 : decide (m ≤ sum) = false := decide_eq_false hmm
            clear h1 hmm
            go_enter Try.func101, Try.ntmps101
            go_wp2_with (first | ((with_reducible refine gate_dst (N := 32) rfl ?_); refine Kd.R_lit k92 _ 92 ?hg (N := 32) ?hd (xs := ([] : List S92)) (inner := []) (ok := fun _ => True) (okp := fun _ => True) ?hr ?hp (fun _ hk => hk) trivial (Below.refl _ _) (Nat.le_refl _) (by simp) ?_; (case hd => rfl); (case hg => rfl); (case hr => first | (go_simp; done) | (go_simp; rfl)); (case hp => exact (Reps.none _ _)); intro v32 w3 ho3 hb3 hg_ hnew_; have HO3 := Aside0.mk ho3; have HB3 := Aside0.mk hb3; clear ho3 hb3 hg_ hnew_) | ((with_reducible refine gate_builtin (b := .append) (xs := #[.tmp 32, .tmp 33]) rfl ?_); at_builtin; refine Kd.R_append_rows k92 (w0 := W) W.heap.size rfl (.tmp 32) (.tmp 33) 46 92 (.agg #[(.int .i64 0), (.int .i64 0)]) 16 rfl Try.underlying46 spec_l03Match_from.info2 rfl (by decide) (by omega) v32 [] N _ _ _ (fun _ => True) (fun _ => False) rfl rfl ?aO ?aR (fun _ _ h => h) (fun _ h => h.elim) ?aF ?aB ?aS ?aL ?_; (case aR => exact Kd.C_below HN.out HB3.out); (case aB => exact HB3.out); (case aF => exact (fun _ _ => trivial)); (case aO => exact HO3.out); (case aS => exact HB3.out.size); (case aL => have := H3.out; simp; omega); intro v34 w5 ho hb hg hat; rw [List.nil_append] at ho; have HI5 := Aside0.mk (HI.out.next hb); have HO5 := Aside0.mk (Kd.R_lower ho HI.out.b.size); have KP5 := Aside0.mk (KeepBut.of_below hb gw none); clear ho hb hg hat; obtain ⟨A5, c5, e5⟩ := Kd.R_slice HO5.out; subst e5; have hw2 : w5.cell? ⟨gw, 101, none⟩ = some vB := HI5.out.cb; have hw3 : w5.cell? ⟨gw, 102, none⟩ = some (.int .i64 m) := HI5.out.cm; have hw4 : w5.cell? ⟨gw, 103, none⟩ = some (.bool true) := HI5.out.cf; have hz2 := blk_frozen HI5.out.h 101; have hz3 := blk_frozen HI5.out.h 102; have hz4 := blk_frozen HI5.out.h 103))
            refine bodyPost_ret (results_none rfl _ _ _) rfl ⟨rfl, ?_, _, HI5.out.store HO5.out sum⟩
            exact ((KP5.out.set_ 101 _).set_ 102 _).set_ 103 _
        · rw [if_neg h2] at h
          have e1 : (2 * (N.length : Int) == n) = false := beq_eq_false_iff_ne.mpr h2
          obtain ⟨a, ha, h⟩ := Option.bind_eq_some_iff.mp h
          have HL := Aside0.mk h
          have HS := Aside0.mk ha
          clear h h3 h2 ha
          cases fd with
          | false =>
            clear h1
            go_enter Try.func101, Try.ntmps101
            go_wp2
            go_loopg [8] k (fun gq v8 W2 => ∃ (x : Nat), v8 = .int .i64 (x : Int) ∧ W2 = W ∧ Aside0 (spec_l03Match_from.skip gq used x = some a) ∧ Aside0 (gq ≤ k))
            case atStart => exact ⟨0, rfl, rfl, HS, ⟨Nat.le_refl _⟩⟩
            case round =>
              clear HS
              obtain ⟨x, rfl, hww, HS, HK⟩ := hrel
              replace hww := hww.symm
              subst hww
              cases gk with
              | zero => exact absurd HS.out (by simp [spec_l03Match_from.skip])
              | succ g =>
                have H := HS.out
                rw [spec_l03Match_from.skip] at H
                clear HS
                by_cases hx : x < 60
                · rw [if_pos hx] at H
                  obtain ⟨j, hj⟩ : ∃ j_ : Int, (shr .i64 used (x : Int)) = j_ := ⟨_, rfl⟩
                  rw [hj] at H
                  have hjn : used / 2 ^ x = j := by rw [← hj]; unfold shr; rw [Int.toNat_natCast, Nat.min_eq_left (by show x ≤ 64; omega)]
                  have hjm : used / 2 ^ min x 64 = j := by rw [Nat.min_eq_left (by omega)]; exact hjn
                  by_cases hb : Go.bits .and .i64 j 1 = 1
                  · rw [if_pos hb] at H
                    have hb1 : (Go.bits .and .i64 j 1 == 1) = true := beq_iff_eq.mpr hb
                    have HS := Aside0.mk H
                    clear H
                    go_wp2
                    go_roundg g
                    case measure => omega
                    case rel => exact ⟨x + 1, (by first | rfl | (congr 1; unfold wrap64; omega)), rfl, HS, ⟨by have := HK.out; omega⟩⟩
                  · rw [if_neg hb] at H
                    have hb1 : (Go.bits .and .i64 j 1 == 1) = false := beq_eq_false_iff_ne.mpr hb
                    obtain rfl := Option.some.inj H
                    clear H
                    go_wp2
                    have KP0 := Aside0.mk (KeepBut.refl W gw none)
                    clear hj hjn hjm hb hb1 hqn hqm hqf hw2 e1
                    go_loopg [9, 10] k (fun gq v9 _ W2 => ∃ (b : Nat) (B1 : List S92) (m1 : Int) (fd1 : Bool) (vB1 : Value), v9 = .int .i64 (b : Int) ∧ Aside0 (spec_l03Match_from.l0 R n gq N used sum x b B1 m1 fd1 = some (r1, r2, r3)) ∧ Aside0 (gq ≤ k) ∧ Aside0 (spec_l03Match_from.Inv w W2 gw R n B1 m1 fd1 vB1) ∧ Aside0 (KeepBut W W2 gw none) ∧ Aside0 (Kd.C k92 W2 An N.length N))
                    case atStart => exact ⟨x + 1, B, m, _, vB, (by first | rfl | (congr 1; unfold wrap64; omega)), HL, ⟨Nat.le_refl _⟩, HI, KP0, HN⟩
                    case round =>
                      clear HL HI KP0 HN HK
                      obtain ⟨b, B1, m1, fd1, vB1, rfl, HL, HK, HI2, KP2, HN2⟩ := hrel
                      cases gk with
                      | zero => exact absurd HL.out (by simp [spec_l03Match_from.l0])
                      | succ g2 =>
                        have H := HL.out
                        rw [spec_l03Match_from.l0] at H
                        clear HL
                        have hqn := HI2.out.cn
                        by_cases hbn : (b : Int) < n
                        · rw [if_pos hbn] at H
                          have hbn1 : decide ((b : Int) < n) = true := decide_eq_true hbn
                          by_cases hg : x < 10 ∧ b < 10 ∧ N.length ≤ 1048576
                          · rw [if_pos hg] at H
                            obtain ⟨g3, g4, g5⟩ := hg
                            obtain ⟨j, hj⟩ : ∃ j_ : Int, (shr .i64 used (b : Int)) = j_ := ⟨_, rfl⟩
                            rw [hj] at H
                            have hjn : used / 2 ^ b = j := by rw [← hj]; unfold shr; rw [Int.toNat_natCast, Nat.min_eq_left (by show b ≤ 64; omega)]
                            have hjm : used / 2 ^ min b 64 = j := by rw [Nat.min_eq_left (by omega)]; exact hjn
                            by_cases hb : Go.bits .and .i64 j 1 = 0
                            · rw [if_pos hb] at H
                              obtain ⟨⟨B2, m2, fd2⟩, hput, H⟩ := Option.bind_eq_some_iff.mp H
                              simp only at H
                              obtain ⟨rr, hrr⟩ : ∃ r_, R.getD (x * 10 + b) 0 = r_ := ⟨_, rfl⟩
                              obtain ⟨N7, hN7⟩ : ∃ N_, N ++ [(⟨(x : Int), (b : Int)⟩ : S92)] = N_ := ⟨_, rfl⟩
                              rw [hrr, hN7] at hput
                              have HRR := Aside0.mk hrr
                              have HN7 := Aside0.mk hN7
                              have HP := Aside0.mk hput
                              have HL := Aside0.mk H
                              have hb1 : (Go.bits .and .i64 j 1 == 0) = true := beq_iff_eq.mpr hb
                              have hsa : wrap64 (2 ^ x) = shl .i64 1 (x : Int) := by unfold shl; rw [Int.toNat_natCast, Nat.min_eq_left (by show x ≤ 64; omega), Int.one_mul, spec_l03Match_from.wr64]
                              have hsb : wrap64 (2 ^ b) = shl .i64 1 (b : Int) := by unfold shl; rw [Int.toNat_natCast, Nat.min_eq_left (by show b ≤ 64; omega), Int.one_mul, spec_l03Match_from.wr64]
                              have G5 := Aside0.mk g5
                              have qx0 : (0 : Int) ≤ (x : Int) := by omega
                              have qb0 : (0 : Int) ≤ (b : Int) := by omega
                              have qx1 : (x : Int) < 10 := by omega
                              have qb1 : (b : Int) < 10 := by omega
                              clear H hput hb hj hrr hN7
                              go_wp2_with (first | ((with_reducible refine gate_dst (N := 68) rfl ?_); refine Kd.R_lit k92 _ 92 ?hg (N := 68) ?hd (xs := ([] : List S92)) (inner := []) (ok := fun _ => True) (okp := fun _ => True) ?hr ?hp (fun _ hk => hk) trivial (Below.refl _ _) (Nat.le_refl _) (by simp) ?_; (case hd => rfl); (case hg => rfl); (case hr => first | (go_simp; done) | (go_simp; rfl)); (case hp => exact (Reps.none _ _)); intro v68 w3 ho3 hb3 hg_ hnew_; have HO3 := Aside0.mk ho3; have HB3 := Aside0.mk hb3; clear ho3 hb3 hg_ hnew_) | ((with_reducible refine gate_builtin (b := .append) (xs := #[.tmp 68, .tmp 69]) rfl ?_); at_builtin; refine Kd.R_append_rows k92 (w0 := wr) wr.heap.size rfl (.tmp 68) (.tmp 69) 46 92 (.agg #[(.int .i64 0), (.int .i64 0)]) 16 rfl Try.underlying46 spec_l03Match_from.info2 rfl (by decide) (by omega) v68 [] N _ _ _ (fun _ => True) (fun _ => False) rfl rfl ?aO ?aR (fun _ _ h => h) (fun _ h => h.elim) ?aF ?aB ?aS ?aL ?_; (case aR => exact Kd.C_below HN2.out HB3.out); (case aB => exact HB3.out); (case aF => exact (fun _ _ => trivial)); (case aO => exact HO3.out); (case aS => exact HB3.out.size); (case aL => have := G5.out; simp; omega); intro v70 w5 ho hb hg hat; rw [List.nil_append] at ho; have HO5 := Aside0.mk ho; have HB5 := Aside0.mk hb; clear ho hb hg hat) | ((with_reducible refine gate_builtin (b := .append) (xs := #[.tmp 70, .tmp 74]) rfl ?_); at_builtin; refine Kd.R_append_rows k92 (w0 := wr) wr.heap.size rfl (.tmp 70) (.tmp 74) 46 92 (.agg #[(.int .i64 0), (.int .i64 0)]) 16 rfl Try.underlying46 spec_l03Match_from.info2 rfl (by decide) (by omega) v70 N [⟨(x : Int), (b : Int)⟩] _ _ _ (fun _ => True) (fun _ => False) rfl rfl ?aO ?aR (fun _ _ h => h) (fun _ h => h.elim) ?aF ?aB ?aS ?aL ?_; (case aR => exact spec_l03Match_from.lit _ _ (blk_new _ _)); (case aB => exact below_alloc HB5.out _); (case aF => exact (fun _ _ => trivial)); (case aO => exact Kd.R_alloc HO5.out _); (case aS => exact (below_alloc HB5.out _).size); (case aL => have := G5.out; simp; omega); intro v75 w7 ho hb hg hat; rw [HN7.out] at ho; have HI7 := Aside0.mk (HI2.out.next hb); have KP7 := Aside0.mk (KP2.out.trans (KeepBut.of_below hb gw none) (.inl rfl)); have HO7 := Aside0.mk ho; have HN7_ := Aside0.mk (Kd.C_below HN2.out hb); clear ho hb hg hat; obtain ⟨A7, c7, e7⟩ := Kd.R_slice HO7.out; subst e7; have hcr : w7.cell? ⟨gw, x * 10 + b, none⟩ = some (.int .i64 rr) := (HI7.out.cr (x * 10 + b) (by omega)).trans (by rw [HRR.out])) | (go_at_call 101; refine (IHa.out g2 (by have := HK.out; omega) A7 c7 N7 _ _ B1 m1 fd1 vB1 _ B2 m2 fd2 HI7.out (Kd.R_reads' HO7.out).2.2 (Kd.R_reads' HO7.out).2.1 (fun ad e => by subst e; have q := Kd.R_base HO7.out ad.block rfl; have := blk_lt HI2.out.h; omega) HP.out).mono ?_; rintro e w9 ⟨rfl, hk, vB2, hI9⟩; have HI9 := Aside0.mk hI9; have KP9 := Aside0.mk (KP7.out.trans hk (.inl rfl)); have HN9 := Aside0.mk (spec_l03Match_from.keepC hk HN7_.out HNE.out); clear hk hI9))
                              go_wp2
                              go_roundg g2
                              case measure => omega
                              case rel => exact ⟨b + 1, B2, m2, fd2, vB2, (by first | rfl | (congr 1; unfold wrap64; omega)), HL, ⟨by have := HK.out; omega⟩, HI9, KP9, HN9⟩
                            · rw [if_neg hb] at H
                              have HL := Aside0.mk H
                              have hb1 : (Go.bits .and .i64 j 1 == 0) = false := beq_eq_false_iff_ne.mpr hb
                              clear H hb hj
                              go_wp2
                              go_roundg g2
                              case measure => omega
                              case rel => exact ⟨b + 1, B1, m1, fd1, vB1, (by first | rfl | (congr 1; unfold wrap64; omega)), HL, ⟨by have := HK.out; omega⟩, HI2, KP2, HN2⟩
                          · rw [if_neg hg] at H; cases H
                        · rw [if_neg hbn] at H
                          have hbn1 : decide ((b : Int) < n) = false := decide_eq_false hbn
                          have e := Option.some.inj H
                          simp only [Prod.mk.injEq] at e
                          obtain ⟨rfl, rfl, rfl⟩ := e
                          clear H
                          go_wp2
                          refine bodyPost_end (results_none rfl _ _ _) rfl ⟨rfl, KP2.out, vB1, HI2.out⟩
                · rw [if_neg hx] at H; cases H
          | true =>
            have hmm : ¬ m ≤ sum := fun z => h1 ⟨rfl, z⟩
            have d3 : decide (m ≤ sum) = false := decide_eq_false hmm
            clear h1 hmm
            go_enter Try.func101, Try.ntmps101
            go_wp2
            go_loopg [8] k (fun gq v8 W2 => ∃ (x : Nat), v8 = .int .i64 (x : Int) ∧ W2 = W ∧ Aside0 (spec_l03Match_from.skip gq used x = some a) ∧ Aside0 (gq ≤ k))
            case atStart => exact ⟨0, rfl, rfl, HS, ⟨Nat.le_refl _⟩⟩
            case round =>
              clear HS
              obtain ⟨x, rfl, hww, HS, HK⟩ := hrel
              replace hww := hww.symm
              subst hww
              cases gk with
              | zero => exact absurd HS.out (by simp [spec_l03Match_from.skip])
              | succ g =>
                have H := HS.out
                rw [spec_l03Match_from.skip] at H
                clear HS
                by_cases hx : x < 60
                · rw [if_pos hx] at H
                  obtain ⟨j, hj⟩ : ∃ j_ : Int, (shr .i64 used (x : Int)) = j_ := ⟨_, rfl⟩
                  rw [hj] at H
                  have hjn : used / 2 ^ x = j := by rw [← hj]; unfold shr; rw [Int.toNat_natCast, Nat.min_eq_left (by show x ≤ 64; omega)]
                  have hjm : used / 2 ^ min x 64 = j := by rw [Nat.min_eq_left (by omega)]; exact hjn
                  by_cases hb : Go.bits .and .i64 j 1 = 1
                  · rw [if_pos hb] at H
                    have hb1 : (Go.bits .and .i64 j 1 == 1) = true := beq_iff_eq.mpr hb
                    have HS := Aside0.mk H
                    clear H
                    go_wp2
                    go_roundg g
                    case measure => omega
                    case rel => exact ⟨x + 1, (by first | rfl | (congr 1; unfold wrap64; omega)), rfl, HS, ⟨by have := HK.out; omega⟩⟩
                  · rw [if_neg hb] at H
                    have hb1 : (Go.bits .and .i64 j 1 == 1) = false := beq_eq_false_iff_ne.mpr hb
                    obtain rfl := Option.some.inj H
                    clear H
                    go_wp2
                    have KP0 := Aside0.mk (KeepBut.refl W gw none)
                    clear hj hjn hjm hb hb1 hqn hqm hqf hw2 e1
                    go_loopg [9, 10] k (fun gq v9 _ W2 => ∃ (b : Nat) (B1 : List S92) (m1 : Int) (fd1 : Bool) (vB1 : Value), v9 = .int .i64 (b : Int) ∧ Aside0 (spec_l03Match_from.l0 R n gq N used sum x b B1 m1 fd1 = some (r1, r2, r3)) ∧ Aside0 (gq ≤ k) ∧ Aside0 (spec_l03Match_from.Inv w W2 gw R n B1 m1 fd1 vB1) ∧ Aside0 (KeepBut W W2 gw none) ∧ Aside0 (Kd.C k92 W2 An N.length N))
                    case atStart => exact ⟨x + 1, B, m, _, vB, (by first | rfl | (congr 1; unfold wrap64; omega)), HL, ⟨Nat.le_refl _⟩, HI, KP0, HN⟩
                    case round =>
                      clear HL HI KP0 HN HK
                      obtain ⟨b, B1, m1, fd1, vB1, rfl, HL, HK, HI2, KP2, HN2⟩ := hrel
                      cases gk with
                      | zero => exact absurd HL.out (by simp [spec_l03Match_from.l0])
                      | succ g2 =>
                        have H := HL.out
                        rw [spec_l03Match_from.l0] at H
                        clear HL
                        have hqn := HI2.out.cn
                        by_cases hbn : (b : Int) < n
                        · rw [if_pos hbn] at H
                          have hbn1 : decide ((b : Int) < n) = true := decide_eq_true hbn
                          by_cases hg : x < 10 ∧ b < 10 ∧ N.length ≤ 1048576
                          · rw [if_pos hg] at H
                            obtain ⟨g3, g4, g5⟩ := hg
                            obtain ⟨j, hj⟩ : ∃ j_ : Int, (shr .i64 used (b : Int)) = j_ := ⟨_, rfl⟩
                            rw [hj] at H
                            have hjn : used / 2 ^ b = j := by rw [← hj]; unfold shr; rw [Int.toNat_natCast, Nat.min_eq_left (by show b ≤ 64; omega)]
                            have hjm : used / 2 ^ min b 64 = j := by rw [Nat.min_eq_left (by omega)]; exact hjn
                            by_cases hb : Go.bits .and .i64 j 1 = 0
                            · rw [if_pos hb] at H
                              obtain ⟨⟨B2, m2, fd2⟩, hput, H⟩ := Option.bind_eq_some_iff.mp H
                              simp only at H
                              obtain ⟨rr, hrr⟩ : ∃ r_, R.getD (x * 10 + b) 0 = r_ := ⟨_, rfl⟩
                              obtain ⟨N7, hN7⟩ : ∃ N_, N ++ [(⟨(x : Int), (b : Int)⟩ : S92)] = N_ := ⟨_, rfl⟩
                              rw [hrr, hN7] at hput
                              have HRR := Aside0.mk hrr
                              have HN7 := Aside0.mk hN7
                              have HP := Aside0.mk hput
                              have HL := Aside0.mk H
                              have hb1 : (Go.bits .and .i64 j 1 == 0) = true := beq_iff_eq.mpr hb
                              have hsa : wrap64 (2 ^ x) = shl .i64 1 (x : Int) := by unfold shl; rw [Int.toNat_natCast, Nat.min_eq_left (by show x ≤ 64; omega), Int.one_mul, spec_l03Match_from.wr64]
                              have hsb : wrap64 (2 ^ b) = shl .i64 1 (b : Int) := by unfold shl; rw [Int.toNat_natCast, Nat.min_eq_left (by show b ≤ 64; omega), Int.one_mul, spec_l03Match_from.wr64]
                              have G5 := Aside0.mk g5
                              have qx0 : (0 : Int) ≤ (x : Int) := by omega
                              have qb0 : (0 : Int) ≤ (b : Int) := by omega
                              have qx1 : (x : Int) < 10 := by omega
                              have qb1 : (b : Int) < 10 := by omega
                              clear H hput hb hj hrr hN7
                              go_wp2_with (first | ((with_reducible refine gate_dst (N := 68) rfl ?_); refine Kd.R_lit k92 _ 92 ?hg (N := 68) ?hd (xs := ([] : List S92)) (inner := []) (ok := fun _ => True) (okp := fun _ => True) ?hr ?hp (fun _ hk => hk) trivial (Below.refl _ _) (Nat.le_refl _) (by simp) ?_; (case hd => rfl); (case hg => rfl); (case hr => first | (go_simp; done) | (go_simp; rfl)); (case hp => exact (Reps.none _ _)); intro v68 w3 ho3 hb3 hg_ hnew_; have HO3 := Aside0.mk ho3; have HB3 := Aside0.mk hb3; clear ho3 hb3 hg_ hnew_) | ((with_reducible refine gate_builtin (b := .append) (xs := #[.tmp 68, .tmp 69]) rfl ?_); at_builtin; refine Kd.R_append_rows k92 (w0 := wr) wr.heap.size rfl (.tmp 68) (.tmp 69) 46 92 (.agg #[(.int .i64 0), (.int .i64 0)]) 16 rfl Try.underlying46 spec_l03Match_from.info2 rfl (by decide) (by omega) v68 [] N _ _ _ (fun _ => True) (fun _ => False) rfl rfl ?aO ?aR (fun _ _ h => h) (fun _ h => h.elim) ?aF ?aB ?aS ?aL ?_; (case aR => exact Kd.C_below HN2.out HB3.out); (case aB => exact HB3.out); (case aF => exact (fun _ _ => trivial)); (case aO => exact HO3.out); (case aS => exact HB3.out.size); (case aL => have := G5.out; simp; omega); intro v70 w5 ho hb hg hat; rw [List.nil_append] at ho; have HO5 := Aside0.mk ho; have HB5 := Aside0.mk hb; clear ho hb hg hat) | ((with_reducible refine gate_builtin (b := .append) (xs := #[.tmp 70, .tmp 74]) rfl ?_); at_builtin; refine Kd.R_append_rows k92 (w0 := wr) wr.heap.size rfl (.tmp 70) (.tmp 74) 46 92 (.agg #[(.int .i64 0), (.int .i64 0)]) 16 rfl Try.underlying46 spec_l03Match_from.info2 rfl (by decide) (by omega) v70 N [⟨(x : Int), (b : Int)⟩] _ _ _ (fun _ => True) (fun _ => False) rfl rfl ?aO ?aR (fun _ _ h => h) (fun _ h => h.elim) ?aF ?aB ?aS ?aL ?_; (case aR => exact spec_l03Match_from.lit _ _ (blk_new _ _)); (case aB => exact below_alloc HB5.out _); (case aF => exact (fun _ _ => trivial)); (case aO => exact Kd.R_alloc HO5.out _); (case aS => exact (below_alloc HB5.out _).size); (case aL => have := G5.out; simp; omega); intro v75 w7 ho hb hg hat; rw [HN7.out] at ho; have HI7 := Aside0.mk (HI2.out.next hb); have KP7 := Aside0.mk (KP2.out.trans (KeepBut.of_below hb gw none) (.inl rfl)); have HO7 := Aside0.mk ho; have HN7_ := Aside0.mk (Kd.C_below HN2.out hb); clear ho hb hg hat; obtain ⟨A7, c7, e7⟩ := Kd.R_slice HO7.out; subst e7; have hcr : w7.cell? ⟨gw, x * 10 + b, none⟩ = some (.int .i64 rr) := (HI7.out.cr (x * 10 + b) (by omega)).trans (by rw [HRR.out])) | (go_at_call 101; refine (IHa.out g2 (by have := HK.out; omega) A7 c7 N7 _ _ B1 m1 fd1 vB1 _ B2 m2 fd2 HI7.out (Kd.R_reads' HO7.out).2.2 (Kd.R_reads' HO7.out).2.1 (fun ad e => by subst e; have q := Kd.R_base HO7.out ad.block rfl; have := blk_lt HI2.out.h; omega) HP.out).mono ?_; rintro e w9 ⟨rfl, hk, vB2, hI9⟩; have HI9 := Aside0.mk hI9; have KP9 := Aside0.mk (KP7.out.trans hk (.inl rfl)); have HN9 := Aside0.mk (spec_l03Match_from.keepC hk HN7_.out HNE.out); clear hk hI9))
                              go_wp2
                              go_roundg g2
                              case measure => omega
                              case rel => exact ⟨b + 1, B2, m2, fd2, vB2, (by first | rfl | (congr 1; unfold wrap64; omega)), HL, ⟨by have := HK.out; omega⟩, HI9, KP9, HN9⟩
                            · rw [if_neg hb] at H
                              have HL := Aside0.mk H
                              have hb1 : (Go.bits .and .i64 j 1 == 0) = false := beq_eq_false_iff_ne.mpr hb
                              clear H hb hj
                              go_wp2
                              go_roundg g2
                              case measure => omega
                              case rel => exact ⟨b + 1, B1, m1, fd1, vB1, (by first | rfl | (congr 1; unfold wrap64; omega)), HL, ⟨by have := HK.out; omega⟩, HI2, KP2, HN2⟩
                          · rw [if_neg hg] at H; cases H
                        · rw [if_neg hbn] at H
                          have hbn1 : decide ((b : Int) < n) = false := decide_eq_false hbn
                          have e := Option.some.inj H
                          simp only [Prod.mk.injEq] at e
                          obtain ⟨rfl, rfl, rfl⟩ := e
                          clear H
                          go_wp2
                          refine bodyPost_end (results_none rfl _ _ _) rfl ⟨rfl, KP2.out, vB1, HI2.out⟩
                · rw [if_neg hx] at H; cases H
      · rw [if_neg h3] at h; cases h

end Go.Proofs.Ytjhjabibkkhmjaa.XFnExactMatchSingles
