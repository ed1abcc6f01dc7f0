/- The functions that the law FnExactWorstLoop reaches: each as a Lean function, and that its call does what that function says; no conditions. -/
import Derived.Test.YtjhjabibkkhmjaaXFnExactWorstLoopx0
import Derived.Test.YtjhjabibkkhmjaaXFnExactWorstLoopx1
namespace Go.Proofs.Ytjhjabibkkhmjaa.XFnExactWorstLoop
open Go.RowKit Go.Proofs.YtjhjabibkkhmjaaW.PrintWords Go.Proofs.YtjhjabibkkhmjaaW.PrintLast Go.Proofs.YtjhjabibkkhmjaaW.PrintMore
attribute [local go_sem] max2_int min2_int max_two min_two max_three min_three max_four min_four   -- for this text's walks alone
set_option linter.unusedVariables false
set_option linter.unusedSimpArgs false

/-! ### spec_l05Widths: function 156 -/
def spec_l05Widths.l0 : Nat → List Int → Int → Int → List ByteArray → Option (List Int)
  | 0, _, _, _, _ => none
  | k + 1, x3, x4, x1000, x1001 => if x4 < (x1001.length : Int) then (if 0 ≤ x4 then ((spec_l05Row.f k (rdOf ByteArray.empty x1001 x4)).bind fun bt117 => (if x3.length < 17592186044416 then (spec_l05Widths.l0 k (x3 ++ [bt117.2.1]) (wrap64 (x4 + 1)) x1000 x1001) else (none))) else (none)) else (some x3)
def spec_l05Widths.f (k : Nat) (a0_0 : Int) (l0_1 : List ByteArray) : Option (List Int) := spec_l05Widths.l0 k (([wrap64 (a0_0)] : List Int)) 0 a0_0 l0_1
theorem spec_l05Widths.mono_l : ∀ k, (∀ y0 y1 y2 y3, LeO (spec_l05Widths.l0 k y0 y1 y2 y3) (spec_l05Widths.l0 (k + 1) y0 y1 y2 y3))
  | 0 => fun _ _ _ _ r h => by simp [spec_l05Widths.l0] at h
  | k + 1 => by
    have ih0 := spec_l05Widths.mono_l k
    · intro y0 y1 y2 y3
      unfold spec_l05Widths.l0
      repeat' first
      | (with_reducible exact ih0 _ _ _ _)
      | (with_reducible exact spec_l05Row.mono _ _)
      | (with_reducible exact LeO.refl _)
      | (with_reducible exact LeO.none _)
      | (with_reducible refine LeO.ite ?_ ?_)
      | (with_reducible refine LeO.bind ?_ (fun _ => ?_))
      | exact ih0 _ _ _ _
      | exact spec_l05Row.mono _ _
      | exact LeO.none _
      | refine LeO.ite ?_ ?_
      | refine LeO.bind ?_ (fun _ => ?_)
theorem spec_l05Widths.mono : ∀ a0 a1 k, LeO (spec_l05Widths.f k a0 a1) (spec_l05Widths.f (k + 1) a0 a1) := by
  intro a0 a1 k
  have ih0 := spec_l05Widths.mono_l k
  unfold spec_l05Widths.f
  repeat' first
      | (with_reducible exact ih0 _ _ _ _)
      | (with_reducible exact spec_l05Row.mono _ _)
      | (with_reducible exact LeO.refl _)
      | (with_reducible exact LeO.none _)
      | (with_reducible refine LeO.ite ?_ ?_)
      | (with_reducible refine LeO.bind ?_ (fun _ => ?_))
      | exact ih0 _ _ _ _
      | exact spec_l05Row.mono _ _
      | exact LeO.none _
      | refine LeO.ite ?_ ?_
      | refine LeO.bind ?_ (fun _ => ?_)
set_option maxHeartbeats 8000000 in
set_option maxRecDepth 100000 in
theorem spec_l05Widths.calls (k : Nat) (g0 : Nat) (a0_0 : Int) (A0_1 : Option Addr) (c0_1 : Nat) (l0_1 : List ByteArray) (r : List Int) (w : World) (hr0_1 : Kd.C Kd.string w A0_1 l0_1.length l0_1) (hc0_1 : l0_1.length ≤ c0_1) (hbk0 : w.heap[g0]? = some (.cells #[.int .i16 a0_0, .slice A0_1 l0_1.length c0_1] 59 (0, 0))) (h : spec_l05Widths.f k a0_0 l0_1 = some r) :
    Calls Try.prog 156 #[.pointer (some ⟨g0, 0, none⟩)] w fun e w' => ∃ v0_ : Value, e = .returned (v0_) ∧ Kd.R (Kd.int .i64) 2 w' w.heap.size (fun _ => True) v0_ r ∧ Below w.heap.size w w' := by
  have HR0_1 := Aside0.mk hr0_1
  have HC0_1 := Aside0.mk hc0_1
  clear hr0_1 hc0_1
  have BK0 := Aside0.mk hbk0
  clear hbk0
  have HB := Aside0.mk (Below.refl w.heap.size w)
  have H : (spec_l05Widths.l0 k (([wrap64 (a0_0)] : List Int)) 0 a0_0 l0_1) = some r := h
  clear h
  obtain ⟨y113, hy113⟩ : ∃ y_ : List Int, y_ = (([wrap64 (a0_0)] : List Int)) := ⟨_, rfl⟩
  replace H : (spec_l05Widths.l0 k y113 0 a0_0 l0_1) = some r := by first | (rw [hy113]; with_reducible exact H) | (have H2_ := (Option.bind_some _ _).symm.trans H; rw [hy113]; with_reducible exact H2_) | (have H2_ := (Option.bind_some _ _).symm.trans H; with_reducible exact H2_) | with_reducible exact H | (rw [hy113]; exact H) | exact H
  have Ny113 := Aside0.mk hy113
  clear hy113
  have H' := Aside0.mk H
  clear H
  have hcz2_0 : w.cell? ⟨g0, 0, none⟩ = some (.int .i16 a0_0) := (blk_cell BK0.out 0).trans rfl
  have hcz2_1 : w.cell? ⟨g0, 1, none⟩ = some (.slice A0_1 l0_1.length c0_1) := (blk_cell BK0.out 1).trans rfl
  have hfz2_0 := blk_frozen BK0.out 0
  have hfz2_1 := blk_frozen BK0.out 1
  go_enter Try.func156, Try.ntmps156
  go_wp2_with (first | ((with_reducible refine gate_dst (N := 13) rfl ?_); refine Kd.R_lit (Kd.int .i64) _ 2 ?hg (N := 13) ?hd (xs := ([wrap64 (a0_0)] : List Int)) (inner := [.int .i64 (wrap64 (a0_0))]) (ok := fun _ => True) (okp := fun _ => True) ?hr ?hp (fun _ hk => hk) trivial (Below.refl _ _) (Nat.le_refl _) (by simp) ?_; (case hd => rfl); (case hg => rfl); (case hr => first | (go_simp; done) | (go_simp; rfl)); (case hp => exact (Reps.one (show Kd.M (Kd.int .i64) _ _ _ (wrap64 (a0_0)) [.int .i64 (wrap64 (a0_0))] from rfl) (Reps.none _ _))); intro v114 w3 ho4 hb hg_ hnew_; clear hg_ hnew_; (first | rw [← Ny113.out] at ho4 | (simp only [Int.reduceToNat] at ho4; rw [← Ny113.out] at ho4)); have n0_ := Aside0.mk (Kd.R_lower ho4 (below_size (by repeat (first | (with_reducible first | exact HB.out | apply below_alloc | apply pw_below_drewN | apply below_drew1 | refine below_set ?_ GE0.out) | exact HB.out)))); have n1_ := Aside0.mk (blk_below (g := g0) (o := .cells #[.int .i16 a0_0, .slice A0_1 l0_1.length c0_1] 59 (0, 0)) (by (with_reducible repeat (first | refine blk_drewN ?_ _ | refine blk_drew ?_ | refine blk_alloc ?_ _)); exact BK0.out) hb); have n2_ := Aside0.mk (below_step (by repeat (first | (with_reducible first | exact HB.out | apply below_alloc | apply pw_below_drewN | apply below_drew1 | refine below_set ?_ GE0.out) | exact HB.out)) hb); clear BK0; clear HB; have HO115 := n0_; have BK0 := n1_; have HB := n2_; clear n0_ n1_ n2_; clear hb ho4))
  go_loopg [3, 4] k (fun kq v3 v4 w' => ∃ (x3_1 : List Int) (x4_1 : Int), v4 = .int .i64 x4_1 ∧ Aside0 (spec_l05Widths.l0 kq x3_1 x4_1 a0_0 l0_1 = some r) ∧ Aside0 (kq ≤ k) ∧ Aside0 (Kd.R (Kd.int .i64) 2 w' w.heap.size (fun _ => True) v3 x3_1) ∧ Aside0 (w'.heap[g0]? = some (.cells #[.int .i16 a0_0, (.slice A0_1 l0_1.length c0_1)] 59 (0, 0))) ∧ Aside0 (Below w.heap.size w w'))
  case atStart => exact ⟨(y113), (0), (by first | rfl | (simp; done) | (simp [*]; done)), H', ⟨Nat.le_refl _⟩, ⟨by (with_reducible repeat (first | apply Kd.R_alloc | apply Kd.R_drewN | apply Kd.R_drew)); exact HO115.out⟩, ⟨by (with_reducible repeat (first | refine blk_drewN ?_ _ | refine blk_drew ?_ | refine blk_alloc ?_ _)); exact BK0.out⟩, ⟨by repeat (first | (with_reducible first | exact HB.out | apply below_alloc | apply pw_below_drewN | apply below_drew1 | refine below_set ?_ GE0.out) | exact HB.out)⟩⟩
  case round =>
    clear H'
    try clear c1
    try clear p2
    try clear hcz2_0
    try clear hcz2_1
    try clear hfz2_0
    try clear hfz2_1
    obtain ⟨x3_1, x4_1, rfl, HA, HK1, HO_3, BK0, HB⟩ := hrel
    cases gk with
    | zero => exact absurd HA.out (by simp [spec_l05Widths.l0])
    | succ k1 =>
      have H := HA.out
      clear HA
      simp only [spec_l05Widths.l0] at H
      by_cases c5 : x4_1 < (l0_1.length : Int)
      · rw [if_pos c5] at H
        have c5b0 : decide (x4_1 < (l0_1.length : Int)) = true := decide_eq_true c5
        clear c5
        by_cases c6 : 0 ≤ x4_1
        · rw [if_pos c6] at H
          have c6b0 : decide (0 ≤ x4_1) = true := decide_eq_true c6
          clear c6
          replace H := Option.bind_eq_some_iff.mp H
          obtain ⟨⟨t117, t118, t119⟩, A70, H⟩ := H
          replace H : (if x3_1.length < 17592186044416 then (spec_l05Widths.l0 k1 (x3_1 ++ [t118]) (wrap64 (x4_1 + 1)) a0_0 l0_1) else (none)) = some r := H
          have A7 := Aside0.mk A70
          clear A70
          by_cases c8 : x3_1.length < 17592186044416
          · rw [if_pos c8] at H
            have LMc8 := Aside0.mk c8
            clear c8
            obtain ⟨y120, hy120⟩ : ∃ y_ : List Int, y_ = (x3_1 ++ [t118]) := ⟨_, rfl⟩
            replace H : (spec_l05Widths.l0 k1 y120 (wrap64 (x4_1 + 1)) a0_0 l0_1) = some r := by first | (rw [hy120]; with_reducible exact H) | (have H2_ := (Option.bind_some _ _).symm.trans H; rw [hy120]; with_reducible exact H2_) | (have H2_ := (Option.bind_some _ _).symm.trans H; with_reducible exact H2_) | with_reducible exact H | (rw [hy120]; exact H) | exact H
            have Ny120 := Aside0.mk hy120
            clear hy120
            have H' := Aside0.mk H
            clear H
            have hcz9_0 : wr.cell? ⟨g0, 0, none⟩ = some (.int .i16 a0_0) := (blk_cell BK0.out 0).trans rfl
            have hcz9_1 : wr.cell? ⟨g0, 1, none⟩ = some (.slice A0_1 l0_1.length c0_1) := (blk_cell BK0.out 1).trans rfl
            have hfz9_0 := blk_frozen BK0.out 0
            have hfz9_1 := blk_frozen BK0.out 1
            have p116 : 0 ≤ (x4_1 : Int) := of_decide_eq_true (by first | (with_reducible assumption) | assumption)
            have q116 : x4_1 < (l0_1.length : Int) := of_decide_eq_true (by first | (with_reducible assumption) | assumption)
            obtain ⟨ad116, e116, hx116_0⟩ := Kd.at_string HR0_1.out x4_1 p116 q116
            cases e116
            replace hx116_0 := (HB.out.cell (World.block_lt_of_cell? w _ hx116_0)).trans hx116_0
            replace p116 := eq_true p116
            replace q116 := eq_true q116
            go_wp2_with (first | ((with_reducible refine gate_callee (f := 189) rfl ?_); refine goesL_ (some 31) rfl rfl Try.func189 (by kernel_rfl) rfl #[.string (rdOf ByteArray.empty l0_1 x4_1)] rfl (by (try simp only [List.map_toArray, List.map_cons, List.map_nil]); first | done | rfl | (simp only [List.length_drop, List.length_take]; rfl)) ?_; (with_reducible refine (spec_l05Row.calls k1 (rdOf ByteArray.empty l0_1 x4_1) t117 t118 t119 _ A7.out).mono ?_); rintro e w' ⟨rfl, ⟨nd, rfl⟩⟩; refine ⟨_, rfl, ?_⟩) | ((with_reducible refine gate_builtin (b := .append) (xs := #[.tmp 35, .tmp 37]) rfl ?_); at_builtin; refine Kd.R_append (Kd.int .i64) (w0 := w) w.heap.size rfl (.tmp 35) (.tmp 37) 25 2 (.int .i64 0) 8 rfl Try.underlying25 info2 rfl (by decide) (by omega) u3 x3_1 t118 [.int .i64 t118] (fun _ => True) (fun _ => False) rfl rfl ?aP (fun _ hk => hk.elim) ?aF ?aO ?aB ?aS ?aL ?_; (case aP => exact rfl); (case aB => exact (by repeat (first | (with_reducible first | exact HB.out | apply below_alloc | apply pw_below_drewN | apply below_drew1 | refine below_set ?_ GE0.out) | exact HB.out))); (case aF => exact (fun _ _ => trivial)); (case aO => exact (by (with_reducible repeat (first | apply Kd.R_alloc | apply Kd.R_drewN | apply Kd.R_drew)); exact HO_3.out)); (case aS => exact (below_size (by repeat (first | (with_reducible first | exact HB.out | apply below_alloc | apply pw_below_drewN | apply below_drew1 | refine below_set ?_ GE0.out) | exact HB.out)))); (case aL => have := LMc8.out; omega); intro v121 w10 ho hb hg hat; rw [← Ny120.out] at ho; have n0_ := Aside0.mk (blk_grown (g := g0) (o := .cells #[.int .i16 a0_0, .slice (some ad116) l0_1.length c0_1] 59 (0, 0)) (by (with_reducible repeat (first | refine blk_drewN ?_ _ | refine blk_drew ?_ | refine blk_alloc ?_ _)); exact BK0.out) hg (Kd.R_ne HO_3.out BK0.out (by decide))); have n1_ := Aside0.mk (hb); have n2_ := Aside0.mk (ho); clear BK0; clear HB; (try clear HO_3); have BK0 := n0_; have HB := n1_; have HO122 := n2_; clear n0_ n1_ n2_; clear ho hb hg hat))
            go_roundg k1
            case measure => have := HK1.out; omega
            case rel => exact ⟨(y120), (wrap64 (x4_1 + 1)), (by first | rfl | (simp; done) | (simp [*]; done)), H', ⟨by have := HK1.out; omega⟩, ⟨by (with_reducible repeat (first | apply Kd.R_alloc | apply Kd.R_drewN | apply Kd.R_drew)); exact HO122.out⟩, ⟨by (with_reducible repeat (first | refine blk_drewN ?_ _ | refine blk_drew ?_ | refine blk_alloc ?_ _)); exact BK0.out⟩, ⟨by repeat (first | (with_reducible first | exact HB.out | apply below_alloc | apply pw_below_drewN | apply below_drew1 | refine below_set ?_ GE0.out) | exact HB.out)⟩⟩
          · rw [if_neg c8] at H
            exact absurd H (by simp)
        · rw [if_neg c6] at H
          exact absurd H (by simp)
      · rw [if_neg c5] at H
        have c5b0 : decide (x4_1 < (l0_1.length : Int)) = false := decide_eq_false c5
        clear c5
        obtain rfl := Option.some.inj H
        have hcz11_0 : wr.cell? ⟨g0, 0, none⟩ = some (.int .i16 a0_0) := (blk_cell BK0.out 0).trans rfl
        have hcz11_1 : wr.cell? ⟨g0, 1, none⟩ = some (.slice A0_1 l0_1.length c0_1) := (blk_cell BK0.out 1).trans rfl
        have hfz11_0 := blk_frozen BK0.out 0
        have hfz11_1 := blk_frozen BK0.out 1
        go_wp2
        go_ret
        exact ⟨_, by first | rfl | (simp [errW_none, errW_some] <;> rfl) | (simp [*, errW_none, errW_some] <;> rfl), by (with_reducible repeat (first | apply Kd.R_alloc | apply Kd.R_drewN | apply Kd.R_drew)); exact HO_3.out, by repeat (first | (with_reducible first | exact HB.out | apply below_alloc | apply pw_below_drewN | apply below_drew1 | refine below_set ?_ GE0.out) | exact HB.out)⟩

/-! ### spec_l05Last: function 109 -/
def spec_l05Last.f (k : Nat) (a0_0 : Int) (l0_1 : List ByteArray) (a1 : Int) : Option (Bool) := (spec_l05Widths.f k a0_0 l0_1).bind fun t123 => (if 0 ≤ (wrap64 ((t123.length : Int) - 1)) then (if (wrap64 ((t123.length : Int) - 1)) < (t123.length : Int) then ((spec_l00In.f a1 0 (wrap64 ((rd t123 (wrap64 ((t123.length : Int) - 1))) - 1))).bind fun t127 => (some t127)) else (none)) else (none))
theorem spec_l05Last.mono : ∀ a0 a1 a2 k, LeO (spec_l05Last.f k a0 a1 a2) (spec_l05Last.f (k + 1) a0 a1 a2) := by
  intro a0 a1 a2 k
  unfold spec_l05Last.f
  repeat' first
      | (with_reducible exact spec_l05Widths.mono _ _ _)
      | (with_reducible exact LeO.refl _)
      | (with_reducible exact LeO.none _)
      | (with_reducible refine LeO.ite ?_ ?_)
      | (with_reducible refine LeO.bind ?_ (fun _ => ?_))
      | exact spec_l05Widths.mono _ _ _
      | exact LeO.none _
      | refine LeO.ite ?_ ?_
      | refine LeO.bind ?_ (fun _ => ?_)
set_option maxHeartbeats 8000000 in
set_option maxRecDepth 100000 in
theorem spec_l05Last.calls (k : Nat) (g0 : Nat) (a0_0 : Int) (A0_1 : Option Addr) (c0_1 : Nat) (l0_1 : List ByteArray) (a1 : Int) (r : Bool) (w : World) (hr0_1 : Kd.C Kd.string w A0_1 l0_1.length l0_1) (hc0_1 : l0_1.length ≤ c0_1) (hbk0 : w.heap[g0]? = some (.cells #[.int .i16 a0_0, .slice A0_1 l0_1.length c0_1] 59 (0, 0))) (h : spec_l05Last.f k a0_0 l0_1 a1 = some r) :
    Calls Try.prog 109 #[.pointer (some ⟨g0, 0, none⟩), .int .i64 a1] w fun e w' => e = .returned (.bool r) ∧ Below w.heap.size w w' := by
  have HR0_1 := Aside0.mk hr0_1
  have HC0_1 := Aside0.mk hc0_1
  clear hr0_1 hc0_1
  have BK0 := Aside0.mk hbk0
  clear hbk0
  have HB := Aside0.mk (Below.refl w.heap.size w)
  have H : ((spec_l05Widths.f k a0_0 l0_1).bind fun t123 => (if 0 ≤ (wrap64 ((t123.length : Int) - 1)) then (if (wrap64 ((t123.length : Int) - 1)) < (t123.length : Int) then ((spec_l00In.f a1 0 (wrap64 ((rd t123 (wrap64 ((t123.length : Int) - 1))) - 1))).bind fun t127 => (some t127)) else (none)) else (none))) = some r := h
  clear h
  replace H := Option.bind_eq_some_iff.mp H
  obtain ⟨t123, A30, H⟩ := H
  replace H : (if 0 ≤ (wrap64 ((t123.length : Int) - 1)) then (if (wrap64 ((t123.length : Int) - 1)) < (t123.length : Int) then ((spec_l00In.f a1 0 (wrap64 ((rd t123 (wrap64 ((t123.length : Int) - 1))) - 1))).bind fun t127 => (some t127)) else (none)) else (none)) = some r := H
  have A3 := Aside0.mk A30
  clear A30
  obtain ⟨ji4, hji4⟩ : ∃ j_ : Int, (wrap64 ((t123.length : Int) - 1)) = j_ := ⟨_, rfl⟩
  replace H : (if 0 ≤ (ji4) then (if (ji4) < (t123.length : Int) then ((spec_l00In.f a1 0 (wrap64 ((rd t123 (ji4)) - 1))).bind fun t127 => (some t127)) else (none)) else (none)) = some r := by first | (rw [hji4] at H; exact H) | (simp only [hji4] at H ⊢; exact H)
  (try rw [hji4] at A3)
  have hji4w : (IntKind.i64.wrap ((t123.length : Int) - 1)) = ji4 := (i64_w _).trans hji4
  by_cases c5 : 0 ≤ (ji4)
  · rw [if_pos c5] at H
    have c5b0 : decide (0 ≤ (ji4)) = true := decide_eq_true c5
    clear c5
    by_cases c6 : (ji4) < (t123.length : Int)
    · rw [if_pos c6] at H
      have c6b0 : decide ((ji4) < (t123.length : Int)) = true := decide_eq_true c6
      clear c6
      replace H := Option.bind_eq_some_iff.mp H
      obtain ⟨t127, A70, H⟩ := H
      replace H : (some t127) = some r := H
      have A7 := Aside0.mk A70
      clear A70
      obtain rfl := Option.some.inj H
      go_enter Try.func109, Try.ntmps109
      go_wp2_with (first | ((with_reducible refine gate_callee (f := 156) rfl ?_); refine goesL_ (some 7) rfl rfl Try.func156 (by kernel_rfl) rfl #[.pointer (some ⟨g0, 0, none⟩)] rfl (by (try simp only [List.map_toArray, List.map_cons, List.map_nil]); first | done | rfl | (simp only [List.length_drop, List.length_take]; rfl)) ?_; (with_reducible refine (spec_l05Widths.calls k g0 a0_0 A0_1 c0_1 l0_1 t123 _ ?side1 ?side2 ?side3 A3.out).mono ?_); (case side1 => repeat (first | exact HR0_1.out | (with_reducible refine Kd.C_alloc ?_ _) | (with_reducible refine Kd.C_drewN ?_ _) | (with_reducible refine Kd.C_drew ?_))); (case side2 => exact HC0_1.out); (case side3 => exact (by (with_reducible repeat (first | refine blk_drewN ?_ _ | refine blk_drew ?_ | refine blk_alloc ?_ _)); exact BK0.out)); rintro e w8 ⟨v124, rfl, ho0, hb⟩; refine ⟨_, rfl, ?_⟩; have n0_ := Aside0.mk (Kd.R_lower ho0 (below_size (by repeat (first | (with_reducible first | exact HB.out | apply below_alloc | apply pw_below_drewN | apply below_drew1 | refine below_set ?_ GE0.out) | exact HB.out)))); have n1_ := Aside0.mk (blk_below (g := g0) (o := .cells #[.int .i16 a0_0, .slice A0_1 l0_1.length c0_1] 59 (0, 0)) (by (with_reducible repeat (first | refine blk_drewN ?_ _ | refine blk_drew ?_ | refine blk_alloc ?_ _)); exact BK0.out) hb); have n2_ := Aside0.mk (below_step (by repeat (first | (with_reducible first | exact HB.out | apply below_alloc | apply pw_below_drewN | apply below_drew1 | refine below_set ?_ GE0.out) | exact HB.out)) hb); clear BK0; clear HB; have HO125 := n0_; have BK0 := n1_; have HB := n2_; clear n0_ n1_ n2_; (try clear hb); (try clear hb2); (try clear hk); (try clear hi); (try clear ho0); obtain ⟨Ao9, co9, eo9⟩ := Kd.R_slice HO125.out; subst eo9; have p126 : 0 ≤ ((ji4) : Int) := of_decide_eq_true (by first | (with_reducible assumption) | assumption); have q126 : (ji4) < (t123.length : Int) := of_decide_eq_true (by first | (with_reducible assumption) | assumption); obtain ⟨ad126, e126, hx126_0⟩ := Kd.at_int (Kd.R_reads' HO125.out).2.2 (ji4) p126 q126; cases e126; replace p126 := eq_true p126; replace q126 := eq_true q126) | ((with_reducible refine gate_callee (f := 85) rfl ?_); refine goesL_ (some 16) rfl rfl Try.func85 (by kernel_rfl) rfl #[.int .i64 a1, .int .i64 0, .int .i64 (wrap64 ((rd t123 (ji4)) - 1))] rfl (by (try simp only [List.map_toArray, List.map_cons, List.map_nil]); first | done | (simp only [hji4]; rfl) | rfl | (simp only [List.length_drop, List.length_take]; rfl)) ?_; (with_reducible refine (spec_l00In.calls a1 0 (wrap64 ((rd t123 (ji4)) - 1)) t127 _ A7.out).mono ?_); rintro e w' ⟨rfl, ⟨nd, rfl⟩⟩; refine ⟨_, rfl, ?_⟩))
      go_ret
      exact ⟨by first | rfl | (simp [errW_none, errW_some] <;> rfl) | (simp only [← hji4]; first | rfl | (simp [errW_none, errW_some] <;> rfl)) | (simp [*, errW_none, errW_some] <;> rfl), by repeat (first | (with_reducible first | exact HB.out | apply below_alloc | apply pw_below_drewN | apply below_drew1 | refine below_set ?_ GE0.out) | exact HB.out)⟩
    · rw [if_neg c6] at H
      exact absurd H (by simp)
  · rw [if_neg c5] at H
    exact absurd H (by simp)

/-! ### spec_l05Ladder: function 110 -/
def spec_l05Ladder.T (c : Int) : Nat := if c = 107 then 1 else if c = 100 then 2 else if c = 105 then 1 else if c = 111 then 0 else 1
def spec_l05Ladder.M (c : Int) : Nat := if c = 105 then 2 else if c = 98 then 0 else 1
def spec_l05Ladder.okc (c : Int) : Bool := decide (c = 107 ∨ c = 100 ∨ c = 105 ∨ c = 111 ∨ c = 98)
/-- Are all of n places from m on true? -/
def spec_l05Ladder.all (D : List Bool) : Nat → Nat → Bool
  | _, 0 => true
  | m, n + 1 => D.getD m false && spec_l05Ladder.all D (m + 1) n
def spec_l05Ladder.fill (b : Bool) : List Bool → Nat → Nat → List Bool
  | N, _, 0 => N
  | N, t, n + 1 => spec_l05Ladder.fill b (N.set t b) (t + 1) n
/-- The loops that drop, one row further down. -/
def spec_l05Ladder.next (D : List Bool) : List Int → Nat → Nat → List Bool → List Bool
  | [], _, _, N => N
  | c :: l, t, m, N => spec_l05Ladder.next D l (t + spec_l05Ladder.T c) (m + spec_l05Ladder.M c) (spec_l05Ladder.fill (decide (0 < spec_l05Ladder.M c) && spec_l05Ladder.all D m (spec_l05Ladder.M c)) N t (spec_l05Ladder.T c))
def spec_l05Ladder.row (r : Nat) (D : List Bool) : Nat → Nat → List S147
  | 0, _ => []
  | n + 1, k => (if D.getD k false = true then [(⟨IntKind.i16.wrap (r : Int), (k : Int)⟩ : S147)] else []) ++ spec_l05Ladder.row r D n (k + 1)
def spec_l05Ladder.down (ws : List Int) (rows : List ByteArray) : Nat → List Bool → List S147
  | 0, D => spec_l05Ladder.row 0 D (rd ws 0).toNat 0
  | r + 1, D => spec_l05Ladder.row (r + 1) D (rd ws ((r + 1 : Nat) : Int)).toNat 0 ++ spec_l05Ladder.down ws rows r (spec_l05Ladder.next D (bytesOf (rdOf ByteArray.empty rows (r : Int))) 0 0 (List.replicate 60 false))
/-- What is behind the row itself. -/
def spec_l05Ladder.tl (ws : List Int) (rows : List ByteArray) : Nat → List Bool → List S147
  | 0, _ => []
  | r + 1, D => spec_l05Ladder.down ws rows r (spec_l05Ladder.next D (bytesOf (rdOf ByteArray.empty rows (r : Int))) 0 0 (List.replicate 60 false))
theorem spec_l05Ladder.down_eq (ws : List Int) (rows : List ByteArray) (r : Nat) (D : List Bool) : spec_l05Ladder.down ws rows r D = spec_l05Ladder.row r D (rd ws (r : Int)).toNat 0 ++ spec_l05Ladder.tl ws rows r D := by
  cases r with
  | zero => simp [spec_l05Ladder.down, spec_l05Ladder.tl]
  | succ r => rfl
def spec_l05Ladder.rowOk (s : ByteArray) : Bool := decide (s.size ≤ 140737488351232) && (bytesOf s).all spec_l05Ladder.okc && decide (((bytesOf s).map spec_l05Ladder.T).sum ≤ 60) && decide (((bytesOf s).map spec_l05Ladder.M).sum ≤ 60)
def spec_l05Ladder.fits (ws : List Int) (rows : List ByteArray) (at_ above : Int) : Bool := decide (ws.length = rows.length + 1) && decide (rows.length ≤ 30) && ws.all (fun x => decide (0 ≤ x ∧ x ≤ 60)) && rows.all spec_l05Ladder.rowOk && decide (0 ≤ at_ ∧ at_ < 60) && decide (above = -1)
def spec_l05Ladder.f (k : Nat) (a0_0 : Int) (l0_1 : List ByteArray) (a1 a2 : Int) : Option (List S147) := (spec_l05Widths.f k a0_0 l0_1).bind fun ws => if spec_l05Ladder.fits ws l0_1 a1 a2 = true then some (spec_l05Ladder.down ws l0_1 l0_1.length ((List.replicate 60 false).set a1.toNat true)) else none
theorem spec_l05Ladder.mono : ∀ a0 a1 a2 a3 k, LeO (spec_l05Ladder.f k a0 a1 a2 a3) (spec_l05Ladder.f (k + 1) a0 a1 a2 a3) := by
  intro a0 a1 a2 a3 k
  unfold spec_l05Ladder.f
  exact LeO.bind (spec_l05Widths.mono _ _ _) (fun _ => LeO.refl _)
/-- A box of bools. -/
def spec_l05Ladder.cs (D : List Bool) : Array Value := (D.map Value.bool).toArray
theorem spec_l05Ladder.cell {w : World} {g : Nat} {D : List Bool} {t : TypeId} (h : w.heap[g]? = some (.cells (spec_l05Ladder.cs D) t (0, 0))) (k : Nat) (hk : k < D.length) : w.cell? ⟨g, k, none⟩ = some (.bool (D.getD k false)) := by
  rw [blk_cell h k]
  simp [spec_l05Ladder.cs, List.getD, hk]
theorem spec_l05Ladder.put {w : World} {g : Nat} {D : List Bool} {t : TypeId} (h : w.heap[g]? = some (.cells (spec_l05Ladder.cs D) t (0, 0))) (k : Nat) (b : Bool) : (w.setCell ⟨g, k, none⟩ (.bool b)).heap[g]? = some (.cells (spec_l05Ladder.cs (D.set k b)) t (0, 0)) :=
  blk_put (cs := spec_l05Ladder.cs D) h k (.bool b) (by
    simp [spec_l05Ladder.cs, List.map_set])
theorem spec_l05Ladder.takes (c : Int) (h : spec_l05Ladder.okc c = true) : spec_l05Takes.f 1 c = some ((spec_l05Ladder.T c : Nat) : Int) := by
  rcases of_decide_eq_true h with rfl | rfl | rfl | rfl | rfl <;> rfl
theorem spec_l05Ladder.makes (c : Int) (h : spec_l05Ladder.okc c = true) : spec_l05Makes.f c = some ((spec_l05Ladder.M c : Nat) : Int) := by
  rcases of_decide_eq_true h with rfl | rfl | rfl | rfl | rfl <;> rfl
theorem spec_l05Ladder.size : (Try.prog.info? 195).map (·.size) = some 60 := by kernel_rfl
/-- The whole box out of memory, and into another. -/
theorem spec_l05Ladder.load {w : World} {g : Nat} {D : List Bool} (h : w.heap[g]? = some (.cells (spec_l05Ladder.cs D) 195 (0, 0))) (hD : D.length = 60) : (Instr.loadAt 195 (.pointer (some ⟨g, 0, none⟩))).run Try.prog w = .ok (.agg (spec_l05Ladder.cs D)) w := by
  simp only [Instr.loadAt, Instr.sureAddr, Sem.run_bind, Sem.run_pure, Result.andThen]
  exact run_loadVar_row _ _ 195 195 (spec_l05Ladder.cs D) (0, 0) _ h Try.underlying195 rfl (by rw [spec_l05Ladder.size]; simp [spec_l05Ladder.cs, hD])
theorem spec_l05Ladder.store {w : World} {g : Nat} {D N : List Bool} (h : w.heap[g]? = some (.cells (spec_l05Ladder.cs D) 195 (0, 0))) (hD : D.length = 60) (hN : N.length = 60) : (Instr.storeAt 195 (.pointer (some ⟨g, 0, none⟩)) (.agg (spec_l05Ladder.cs N))).run Try.prog w = .ok () (w.setRow g (spec_l05Ladder.cs N)) := by
  simp only [Instr.storeAt, Instr.sureAddr, Sem.run_bind, Sem.run_pure, Result.andThen]
  refine run_storeVar_row _ _ 195 195 (spec_l05Ladder.cs D) (spec_l05Ladder.cs N) h (by rw [spec_l05Ladder.size]; simp [spec_l05Ladder.cs, hN]) (by simp [spec_l05Ladder.cs, hD, hN]) ?_
  rw [Array.all_eq_true_iff_forall_mem]
  intro v hv
  have hv2 : v ∈ N.map Value.bool := by
    unfold spec_l05Ladder.cs at hv
    exact List.mem_toArray.1 hv
  obtain ⟨b, _, rfl⟩ := List.mem_map.1 hv2
  rfl
theorem spec_l05Ladder.storeOp {W : World} {a : Act} {o : Oper} {g : Nat} {D N : List Bool} (p v : Operand) (ho : o.op = .store 195 p v) (hp : a.eval p = .pointer (some ⟨g, 0, none⟩)) (hv : a.eval v = .agg (spec_l05Ladder.cs N)) (h : W.heap[g]? = some (.cells (spec_l05Ladder.cs D) 195 (0, 0))) (hD : D.length = 60) (hN : N.length = 60) : (execOp a.eval o).run Try.prog W = .ok .skip (W.setRow g (spec_l05Ladder.cs N)) := by
  have z := spec_l05Ladder.store h hD hN
  unfold execOp
  simp only [ho, hp, hv, Sem.run_bind, z, Result.andThen_ok, Sem.run_pure]
theorem spec_l05Ladder.loadOp {W : World} {a : Act} {o : Oper} {g : Nat} {D : List Bool} (p : Operand) (ho : o.op = .load 195 p) (hp : a.eval p = .pointer (some ⟨g, 0, none⟩)) (h : W.heap[g]? = some (.cells (spec_l05Ladder.cs D) 195 (0, 0))) (hD : D.length = 60) : (execOp a.eval o).run Try.prog W = .ok (.value (.agg (spec_l05Ladder.cs D))) W := by
  have z := spec_l05Ladder.load h hD
  unfold execOp
  simp only [ho, hp, Sem.run_bind, z, Result.andThen_ok, Sem.run_pure]
theorem spec_l05Ladder.buildOp {W : World} {a : Act} {o : Oper} (ho : o.op = .build 195 #[]) : (execOp a.eval o).run Try.prog W = .ok (.value (.agg (spec_l05Ladder.cs (List.replicate 60 false)))) W := by
  have z := run_build (P := Try.prog) W 195 #[] (spec_l05Ladder.cs (List.replicate 60 false)) (by kernel_rfl)
  unfold execOp
  rw [ho]
  simp only [Sem.run_bind]
  rw [show (#[] : Array (Nat × Operand)).map (fun x => (x.1, a.eval x.2)) = #[] from by simp, z]
  rfl
/-- What the walk keeps: the loops so far, the widths, the box of those that dropped. -/
structure spec_l05Ladder.Inv (w W : World) (g : Nat) (D : List Bool) (v : Value) (out : List S147) (u : Value) (ws : List Int) : Prop where
  o : Kd.R k147 147 W w.heap.size (fun _ => True) v out
  s : Kd.R (Kd.int .i64) 2 W w.heap.size (fun _ => True) u ws
  d : W.heap[g]? = some (.cells (spec_l05Ladder.cs D) 195 (0, 0))
  l : D.length = 60
  g : w.heap.size ≤ g
  b : Below w.heap.size w W
theorem spec_l05Ladder.Inv.next {w W W' : World} {g : Nat} {D : List Bool} {v : Value} {out : List S147} {u : Value} {ws : List Int} (h : spec_l05Ladder.Inv w W g D v out u ws) (hb : Below W.heap.size W W') : spec_l05Ladder.Inv w W' g D v out u ws :=
  ⟨Kd.R_below h.o hb, Kd.R_below h.s hb, blk_below h.d hb, h.l, h.g, below_then h.b h.b.size hb⟩
theorem spec_l05Ladder.Inv.drew {w W : World} {g : Nat} {D : List Bool} {v : Value} {out : List S147} {u : Value} {ws : List Int} (h : spec_l05Ladder.Inv w W g D v out u ws) (n : Nat) : spec_l05Ladder.Inv w (W.drewN n) g D v out u ws :=
  ⟨Kd.R_drewN h.o n, Kd.R_drewN h.s n, blk_drewN h.d n, h.l, h.g, pw_below_drewN h.b n⟩
theorem spec_l05Ladder.Inv.put {w W : World} {g : Nat} {D : List Bool} {v : Value} {out : List S147} {u : Value} {ws : List Int} (h : spec_l05Ladder.Inv w W g D v out u ws) (k : Nat) (b : Bool) : spec_l05Ladder.Inv w (W.setCell ⟨g, k, none⟩ (.bool b)) g (D.set k b) v out u ws :=
  ⟨Kd.R_mono (Kd.R_far (p := ⟨g, k, none⟩) (Kd.R_types h.o h.d (by decide)) (fun _ hk => hk.2) _) (fun _ _ => trivial), Kd.R_mono (Kd.R_far (p := ⟨g, k, none⟩) (Kd.R_types h.s h.d (by decide)) (fun _ hk => hk.2) _) (fun _ _ => trivial), spec_l05Ladder.put h.d k b, by rw [List.length_set]; exact h.l, h.g, below_set h.b h.g⟩
/-- A place of the other box is told. -/
theorem spec_l05Ladder.Inv.other {w W : World} {g n : Nat} {D N : List Bool} {v : Value} {out : List S147} {u : Value} {ws : List Int} (h : spec_l05Ladder.Inv w W g D v out u ws) (hn : W.heap[n]? = some (.cells (spec_l05Ladder.cs N) 195 (0, 0))) (hne : g ≠ n) (hw : w.heap.size ≤ n) (k : Nat) (b : Bool) : spec_l05Ladder.Inv w (W.setCell ⟨n, k, none⟩ (.bool b)) g D v out u ws :=
  ⟨Kd.R_mono (Kd.R_far (p := ⟨n, k, none⟩) (Kd.R_types h.o hn (by decide)) (fun _ hk => hk.2) _) (fun _ _ => trivial), Kd.R_mono (Kd.R_far (p := ⟨n, k, none⟩) (Kd.R_types h.s hn (by decide)) (fun _ hk => hk.2) _) (fun _ _ => trivial), blk_far h.d hne _, h.l, h.g, below_set h.b hw⟩
theorem spec_l05Ladder.Inv.append {w W W' : World} {g : Nat} {D : List Bool} {v v' : Value} {out out' : List S147} {u : Value} {ws : List Int} (h : spec_l05Ladder.Inv w W g D v out u ws) (ho : Kd.R k147 147 W' w.heap.size (fun _ => True) v' out') (hb : Below w.heap.size w W') (hg : W.grownBy W' v.ownBlock) : spec_l05Ladder.Inv w W' g D v' out' u ws :=
  ⟨ho, Kd.R_over' h.s (Kd.R_typed h.o) (by decide) hg, blk_grown h.d hg (Kd.R_ne h.o h.d (by decide)), h.l, h.g, hb⟩
/-- The whole box is told. -/
theorem spec_l05Ladder.Inv.row {w W : World} {g : Nat} {D N : List Bool} {v : Value} {out : List S147} {u : Value} {ws : List Int} (h : spec_l05Ladder.Inv w W g D v out u ws) (hN : N.length = 60) : spec_l05Ladder.Inv w (W.setRow g (spec_l05Ladder.cs N)) g N v out u ws := by
  have hg : W.grownBy (W.setRow g (spec_l05Ladder.cs N)) (some g) := by
    refine ⟨rfl, rfl, rfl, by simp [World.setRow], fun k hk hne => ?_⟩
    have : g ≠ k := fun e => hne (by rw [e])
    simp [World.setRow, Array.getElem?_modify, this]
  have hd : (W.setRow g (spec_l05Ladder.cs N)).heap[g]? = some (.cells (spec_l05Ladder.cs N) 195 (0, 0)) := by
    have := h.d
    simp [World.setRow, Array.getElem?_modify, this]
  have mv : ∀ {α : Type} {d : Kd α} {e : Nat} {v : Value} {xs : List α}, Kd.R d e W w.heap.size (fun _ => True) v xs → (∀ q, q ∈ e :: d.E → q ≠ 195) → Kd.R d e (W.setRow g (spec_l05Ladder.cs N)) w.heap.size (fun _ => True) v xs := by
    intro α d e v xs hr ht
    exact Kd.R_mono (Kd.R_step (Kd.R_types hr h.d ht) (fun k ho hlt => hg.block k hlt (fun e => ho.2 (by injection e with e)))) (fun _ _ => trivial)
  exact ⟨mv h.o (by decide), mv h.s (by decide), hd, hN, h.g, h.b.grown hg h.b.size (fun k e => by cases e; exact h.g)⟩
/-- Both boxes: those that dropped, and those that drop next. -/
structure spec_l05Ladder.Two (w W : World) (g n : Nat) (D N : List Bool) (v : Value) (out : List S147) (u : Value) (ws : List Int) : Prop where
  i : spec_l05Ladder.Inv w W g D v out u ws
  bx : W.heap[n]? = some (.cells (spec_l05Ladder.cs N) 195 (0, 0))
  l : N.length = 60
  ne : g ≠ n
  gx : w.heap.size ≤ n
theorem spec_l05Ladder.Two.drew {w W : World} {g n : Nat} {D N : List Bool} {v : Value} {out : List S147} {u : Value} {ws : List Int} (h : spec_l05Ladder.Two w W g n D N v out u ws) (k : Nat) : spec_l05Ladder.Two w (W.drewN k) g n D N v out u ws :=
  ⟨h.i.drew k, blk_drewN h.bx k, h.l, h.ne, h.gx⟩
theorem spec_l05Ladder.Two.put {w W : World} {g n : Nat} {D N : List Bool} {v : Value} {out : List S147} {u : Value} {ws : List Int} (h : spec_l05Ladder.Two w W g n D N v out u ws) (k : Nat) (b : Bool) : spec_l05Ladder.Two w (W.setCell ⟨n, k, none⟩ (.bool b)) g n D (N.set k b) v out u ws :=
  ⟨h.i.other h.bx h.ne h.gx k b, spec_l05Ladder.put h.bx k b, by rw [List.length_set]; exact h.l, h.ne, h.gx⟩
theorem spec_l05Ladder.Two.start {w W : World} {g n : Nat} {D N : List Bool} {v : Value} {out : List S147} {u : Value} {ws : List Int} (h : spec_l05Ladder.Inv w W g D v out u ws) (hn : W.heap[n]? = some (.cells (spec_l05Ladder.cs N) 195 (0, 0))) (hl : N.length = 60) (hne : g ≠ n) (hw : w.heap.size ≤ n) : spec_l05Ladder.Two w (W.setRow n (spec_l05Ladder.cs N)) g n D N v out u ws := by
  have hg : W.grownBy (W.setRow n (spec_l05Ladder.cs N)) (some n) := by
    refine ⟨rfl, rfl, rfl, by simp [World.setRow], fun k hk hne => ?_⟩
    have : n ≠ k := fun e => hne (by rw [e])
    simp [World.setRow, Array.getElem?_modify, this]
  have hd : (W.setRow n (spec_l05Ladder.cs N)).heap[n]? = some (.cells (spec_l05Ladder.cs N) 195 (0, 0)) := by
    simp [World.setRow, Array.getElem?_modify, hn]
  have mv : ∀ {α : Type} {d : Kd α} {e : Nat} {v : Value} {xs : List α}, Kd.R d e W w.heap.size (fun _ => True) v xs → (∀ q, q ∈ e :: d.E → q ≠ 195) → Kd.R d e (W.setRow n (spec_l05Ladder.cs N)) w.heap.size (fun _ => True) v xs := by
    intro α d e v xs hr ht
    exact Kd.R_mono (Kd.R_step (Kd.R_types hr hn ht) (fun k ho hlt => hg.block k hlt (fun e => ho.2 (by injection e with e)))) (fun _ _ => trivial)
  exact ⟨⟨mv h.o (by decide), mv h.s (by decide), blk_grown h.d hg (fun e => hne (by injection e)), h.l, h.g, h.b.grown hg h.b.size (fun k e => by cases e; exact hw)⟩, hd, hl, hne, hw⟩
theorem spec_l05Ladder.bt_lt {s : ByteArray} {i : Nat} (h : i < s.size) : bt s (i : Int) = (bytesOf s)[i]'(by unfold bytesOf; simpa using h) := by
  unfold bt bytesOf
  simp [h]
  rfl
theorem spec_l05Ladder.TM (c : Int) : spec_l05Ladder.T c ≤ 2 ∧ spec_l05Ladder.M c ≤ 2 := by
  constructor
  · unfold spec_l05Ladder.T
    repeat' split
    all_goals omega
  · unfold spec_l05Ladder.M
    repeat' split
    all_goals omega
theorem spec_l05Ladder.zero (W : World) : (zeroValue 195).run Try.prog W = .ok (.agg (spec_l05Ladder.cs (List.replicate 60 false))) W := (Try.zeroValue195 W).trans rfl
set_option maxHeartbeats 4000000 in
set_option maxRecDepth 100000 in
theorem spec_l05Ladder.calls (k : Nat) (g0 : Nat) (a0_0 : Int) (A0_1 : Option Addr) (c0_1 : Nat) (l0_1 : List ByteArray) (a1 : Int) (a2 : Int) (r : List S147) (w : World) (hr0_1 : Kd.C Kd.string w A0_1 l0_1.length l0_1) (hc0_1 : l0_1.length ≤ c0_1) (hbk0 : w.heap[g0]? = some (.cells #[.int .i16 a0_0, .slice A0_1 l0_1.length c0_1] 59 (0, 0))) (h : spec_l05Ladder.f k a0_0 l0_1 a1 a2 = some r) :
    Calls Try.prog 110 #[.pointer (some ⟨g0, 0, none⟩), .int .i64 a1, .int .i64 a2] w fun e w' => ∃ v0_ : Value, e = .returned v0_ ∧ Kd.R k147 147 w' w.heap.size (fun _ => True) v0_ r ∧ Below w.heap.size w w' := by
  have hu56 := Try.underlying59
  have hu181 := Try.underlying195
  unfold spec_l05Ladder.f at h
  obtain ⟨ws, hws, h⟩ := Option.bind_eq_some_iff.mp h
  by_cases hf : spec_l05Ladder.fits ws l0_1 a1 a2 = true
  · rw [if_pos hf] at h
    have HW := Aside0.mk hws
    have HR := Aside0.mk hr0_1
    have HC := Aside0.mk hc0_1
    have BK := Aside0.mk hbk0
    have HH := Aside0.mk (Option.some.inj h)
    simp only [spec_l05Ladder.fits, Bool.and_eq_true, decide_eq_true_eq, List.all_eq_true] at hf
    obtain ⟨⟨⟨⟨⟨f1, f2⟩, f3⟩, f4⟩, f5⟩, rfl⟩ := hf
    have F1 := Aside0.mk f1
    have F2 := Aside0.mk f2
    have F3 := Aside0.mk f3
    have F4 := Aside0.mk f4
    obtain ⟨at', rfl⟩ := Int.eq_ofNat_of_zero_le f5.1
    have f6 : at' < 60 := by omega
    clear hws hr0_1 hc0_1 hbk0 h f1 f2 f3 f4
    rw [Int.toNat_natCast] at HH
    obtain ⟨D0, hD0⟩ : ∃ D : List Bool, D = (List.replicate 60 false).set at' true := ⟨_, rfl⟩
    rw [← hD0] at HH
    have HD0 := Aside0.mk hD0
    clear hD0
    go_enter Try.func110, Try.ntmps110
    go_wp2_with (first | ((with_reducible refine gate_dst (N := 21) rfl ?_); refine Kd.R_lit k147 (w0 := w) w.heap.size 147 ?hg (N := 21) ?hd (xs := ([] : List S147)) (inner := []) (ok := fun _ => True) (okp := fun _ => True) ?hr ?hp (fun _ hk => hk) trivial (Below.refl _ _) (Nat.le_refl _) (by simp) ?_; (case hd => rfl); (case hg => rfl); (case hr => first | (go_simp; done) | (go_simp; rfl)); (case hp => exact (Reps.none _ _)); intro v1 w1 ho hb hg_ hnew_; clear hg_ hnew_; have O1 := Aside0.mk ho; have HB := Aside0.mk hb; clear ho hb) | ((with_reducible refine gate_dst (N := 22) rfl ?_); refine Kd.event_run rfl (spec_l05Ladder.buildOp rfl) ?_) | ((with_reducible refine gate_dst (N := 8) rfl ?_); refine box_event ?hg (N := 8) ?hd (cs := spec_l05Ladder.cs (List.replicate 60 false)) (t := 195) ?hr ?_; (case hd => rfl); (case hg => rfl); (case hr => first | (go_simp; done) | (go_simp; rfl)); intro gD hg w2 hbox hb; have O2 := Aside0.mk (Kd.R_below O1.out hb); have HB2 := Aside0.mk (below_then HB.out HB.out.size hb); have GD := Aside0.mk (show w.heap.size ≤ gD from (by have := HB.out.size; omega)); have I1 := Aside0.mk (spec_l05Ladder.Inv.mk (v := v1) (out := []) (u := .slice none 0 0) (ws := []) O2.out (Kd.R_nil _ _ _ _ _) hbox (by simp) GD.out HB2.out); clear O1 HB hb hbox hg O2 HB2) | ((with_reducible refine gate_store (t := 195) (p := 8) rfl ?_); refine store_event (t := 195) (p := 8) (v := .tmp 22) rfl rfl rfl (spec_l05Ladder.storeOp (N := List.replicate 60 false) (.tmp 8) (.tmp 22) rfl rfl rfl I1.out.d (by simp) (by simp)) ?_; intro w3 hw; subst hw; have n0_ := Aside0.mk (I1.out.row (N := List.replicate 60 false) (by simp)); clear I1; have I1 := n0_; clear n0_; generalize w2.setRow gD (spec_l05Ladder.cs (List.replicate 60 false)) = w3 at *; have hc := spec_l05Ladder.cell I1.out.d at' (by rw [I1.out.l]; omega); have hfz := blk_frozen I1.out.d at') | (go_at_call 156; have n0_ := Aside0.mk (I1.out.put at' true); clear I1; refine (spec_l05Widths.calls k g0 a0_0 A0_1 c0_1 l0_1 ws _ (Kd.C_below HR.out n0_.out.b) HC.out (blk_below BK.out n0_.out.b) HW.out).mono ?_; rintro e w4 ⟨v9, rfl, ho, hb⟩; rw [← HD0.out] at n0_; have I2 := Aside0.mk (spec_l05Ladder.Inv.mk (n0_.out.next hb).o (Kd.R_lower ho n0_.out.b.size) (n0_.out.next hb).d (n0_.out.next hb).l (n0_.out.next hb).g (n0_.out.next hb).b); clear n0_ ho hb; obtain ⟨A9, c9, e9⟩ := Kd.R_slice I2.out.s; subst e9))
    (try clear hc); (try clear hfz)
    go_loopg [7, 10] (l0_1.length + 1) (fun gq v7 v10 w' => ∃ (rr : Nat) (D : List Bool) (out : List S147), rr + 1 = gq ∧ v10 = .int .i64 (rr : Int) ∧ Aside0 (rr ≤ l0_1.length ∧ out.length + 60 * (rr + 1) ≤ 1860) ∧ Aside0 (spec_l05Ladder.Inv w w' gD D v7 out (.slice A9 ws.length c9) ws) ∧ Aside0 (out ++ spec_l05Ladder.down ws l0_1 rr D = r))
    case atStart => exact ⟨l0_1.length, D0, [], rfl, (by (first | rfl | (simp; done) | (congr 1; have := F1.out; have := F2.out; unfold wrap64; omega) | (have := F1.out; have := F2.out; simp; omega))), ⟨by have := F2.out; simp; omega⟩, I2, ⟨by rw [List.nil_append]; exact HH.out⟩⟩
    case round =>
      clear HH I2 HD0
      obtain ⟨rr, D, out, hrq, rfl, HM, HI, HO⟩ := hrel
      cases gk with
      | zero => omega
      | succ gk =>
        obtain rfl : rr = gk := by omega
        clear hrq
        have h0 : (0 : Int) ≤ (rr : Int) := by omega
        have h1 : (-1 : Int) < (rr : Int) := by omega
        have hrl : (rr : Int) < (ws.length : Int) := by have := HM.out; have := F1.out; omega
        obtain ⟨ad9, e9, hx9⟩ := Kd.at_int (Kd.R_reads' HI.out.s).2.2 (rr : Int) h0 hrl
        cases e9
        have hn0 := F3.out (rd ws (rr : Int)) (by
          unfold rd
          rw [Int.toNat_natCast, List.getD_eq_getElem?_getD, List.getElem?_eq_getElem (by omega)]
          exact List.getElem_mem _)
        obtain ⟨n, hn⟩ := Int.eq_ofNat_of_zero_le hn0.1
        have HN := Aside0.mk hn
        have HN60 := Aside0.mk (show n ≤ 60 by omega)
        have HOut := HO.out
        rw [spec_l05Ladder.down_eq, hn, Int.toNat_natCast, ← List.append_assoc] at HOut
        have HT := Aside0.mk HOut
        clear hx9 hn0 hn HOut HO
        have h0s := Aside0.mk h0
        go_wp2
        go_loopg [7, 11] n (fun gq v7 v11 w' => ∃ (kk : Nat) (out1 : List S147), kk + gq = n ∧ v11 = .int .i64 (kk : Int) ∧ Aside0 (out1.length + gq + 60 * rr ≤ 1860) ∧ Aside0 (spec_l05Ladder.Inv w w' gD D v7 out1 (.slice (some ad9) ws.length c9) ws) ∧ Aside0 (out1 ++ spec_l05Ladder.row rr D gq kk ++ spec_l05Ladder.tl ws l0_1 rr D = r))
        case atStart => exact ⟨0, out, by omega, rfl, ⟨by have := HM.out; have := HN60.out; omega⟩, HI, HT⟩
        case round =>
          clear HT HI
          obtain ⟨kk, out1, hkq, rfl, HM1, HI, HT⟩ := hrel
          obtain ⟨ad, e9, hx9⟩ := Kd.at_int (Kd.R_reads' HI.out.s).2.2 (rr : Int) h0 hrl
          cases e9
          rw [HN.out, Int.toNat_natCast] at hx9
          cases gk with
          | zero =>
            obtain rfl : kk = n := by omega
            have hnlt : ¬ (kk : Int) < (kk : Int) := by omega
            have HT2 := HT.out
            rw [show spec_l05Ladder.row rr D 0 kk = [] from rfl, List.append_nil] at HT2
            by_cases hz : rr = 0
            · have HT3 : out1 = r := by
                rw [hz] at HT2
                rw [show spec_l05Ladder.tl ws l0_1 0 D = [] from rfl, List.append_nil] at HT2
                exact HT2
              subst HT3
              have hz1 : ((rr : Int) == 0) = true := by rw [hz]; rfl
              have hz2 : decide ((rr : Int) = 0) = true := by rw [hz]; rfl
              clear hz HT HT2
              go_wp2
              go_ret
              exact ⟨_, rfl, HI.out.o, HI.out.b⟩
            · have hz1 : ((rr : Int) == 0) = false := beq_eq_false_iff_ne.mpr (by omega)
              have hz2 : ¬ (rr : Int) = 0 := by omega
              obtain ⟨q, hq⟩ : ∃ q, rr = q + 1 := ⟨rr - 1, by omega⟩
              rw [hq] at HT2
              have HQ := Aside0.mk hq
              rw [show spec_l05Ladder.tl ws l0_1 (q + 1) D = spec_l05Ladder.down ws l0_1 q (spec_l05Ladder.next D (bytesOf (rdOf ByteArray.empty l0_1 (q : Int))) 0 0 (List.replicate 60 false)) from rfl] at HT2
              have hql : q < l0_1.length := by have := HM.out; omega
              obtain ⟨s, hs⟩ : ∃ s, rdOf ByteArray.empty l0_1 (q : Int) = s := ⟨_, rfl⟩
              have hsm : s ∈ l0_1 := by
                rw [← hs]; unfold rdOf
                rw [Int.toNat_natCast, List.getD_eq_getElem?_getD, List.getElem?_eq_getElem hql]
                exact List.getElem_mem _
              have hsk := F4.out s hsm
              simp only [spec_l05Ladder.rowOk, Bool.and_eq_true, decide_eq_true_eq, List.all_eq_true] at hsk
              obtain ⟨⟨⟨k1, k2⟩, k3⟩, k4⟩ := hsk
              have K1 := Aside0.mk k1
              have K2 := Aside0.mk k2
              have K3 := Aside0.mk k3
              have K4 := Aside0.mk k4
              rw [hs] at HT2
              have HT := Aside0.mk HT2
              obtain ⟨ads, es, _⟩ := Kd.at_string (Kd.C_below HR.out HI.out.b) (q : Int) (by omega) (by omega)
              cases es
              have hwq : wrap64 ((rr : Int) - 1) = (q : Int) := by unfold wrap64; have := HM.out; have := F2.out; omega
              have hq0 : (0 : Int) ≤ (q : Int) := by omega
              have hql2 : (q : Int) < (l0_1.length : Int) := by omega
              have HS := Aside0.mk hs
              clear k1 k2 k3 k4 hsm hs HT2 hql hq
              go_wp2_with (first | ((with_reducible refine gate_dst (N := 60) rfl ?_); refine Kd.event_run rfl (spec_l05Ladder.buildOp rfl) ?_) | ((with_reducible refine gate_dst (N := 12) rfl ?_); refine box_event ?hg (N := 12) ?hd (cs := spec_l05Ladder.cs (List.replicate 60 false)) (t := 195) ?hr ?_; (case hd => rfl); (case hg => rfl); (case hr => first | (go_simp; done) | (go_simp; rfl)); intro gN hg w2 hbox hb; have NE := Aside0.mk (show gD ≠ gN from (by have := blk_lt HI.out.d; omega)); have GN := Aside0.mk (show w.heap.size ≤ gN from (by have := HI.out.b.size; omega)); have n0_ := Aside0.mk (HI.out.next hb); have BN := Aside0.mk hbox; clear HI hb hbox hg; have HI := n0_; clear n0_) | ((with_reducible refine gate_store (t := 195) (p := 12) rfl ?_); refine store_event (t := 195) (p := 12) (v := .tmp 60) rfl rfl rfl (spec_l05Ladder.storeOp (N := List.replicate 60 false) (.tmp 12) (.tmp 60) rfl rfl rfl BN.out (by simp) (by simp)) ?_; intro w3 hw; have TW : Aside0 (spec_l05Ladder.Two w w3 gD gN D (List.replicate 60 false) u7 out1 (.slice (some ad9) ws.length c9) ws) := ⟨by rw [hw]; exact spec_l05Ladder.Two.start HI.out BN.out (by simp) NE.out GN.out⟩; clear hw HI BN NE GN; have BKw := Aside0.mk (blk_below BK.out TW.out.i.b); have hcf : w3.cell? ⟨g0, 1, none⟩ = some (.slice (some ads) l0_1.length c0_1) := (blk_cell BKw.out 1).trans rfl; obtain ⟨ads2, es, hxs⟩ := Kd.at_string (Kd.C_below HR.out TW.out.i.b) (q : Int) hq0 hql2; cases es; rw [HS.out, Int.toNat_natCast] at hxs))
              clear hcf hxs BKw
              go_loopg [14, 15, 16] s.size (fun gq v14 v15 v16 W => ∃ (ii t m : Nat) (N : List Bool), ii + gq = s.size ∧ v14 = .int .i64 (t : Int) ∧ v15 = .int .i64 (m : Int) ∧ v16 = .int .i64 (ii : Int) ∧ Aside0 (t + (((bytesOf s).drop ii).map spec_l05Ladder.T).sum ≤ 60 ∧ m + (((bytesOf s).drop ii).map spec_l05Ladder.M).sum ≤ 60) ∧ Aside0 (spec_l05Ladder.Two w W gD gN D N u7 out1 (.slice (some ad9) ws.length c9) ws) ∧ Aside0 (out1 ++ spec_l05Ladder.down ws l0_1 q (spec_l05Ladder.next D ((bytesOf s).drop ii) t m N) = r))
              case atStart => exact ⟨0, 0, 0, _, by omega, rfl, rfl, rfl, ⟨by simpa using And.intro K3.out K4.out⟩, TW, ⟨by simpa using HT.out⟩⟩
              case round =>
                clear HT TW
                obtain ⟨ii, t, m, N, hig, rfl, rfl, rfl, HB2, TW, HT⟩ := hrel
                cases gk with
                | zero =>
                  obtain rfl : ii = s.size := by omega
                  have hnlt : ¬ (s.size : Int) < (s.size : Int) := by omega
                  have HT2 := HT.out
                  rw [List.drop_eq_nil_of_le (by unfold bytesOf; simp), show spec_l05Ladder.next D [] t m N = N from rfl] at HT2
                  have HT := Aside0.mk HT2
                  clear HT2
                  go_wp2_with (first | ((with_reducible refine gate_dst (N := 116) rfl ?_); refine Kd.event_run rfl (spec_l05Ladder.loadOp (.tmp 12) rfl rfl TW.out.bx TW.out.l) ?_) | ((with_reducible refine gate_store (t := 195) (p := 8) rfl ?_); refine store_event (t := 195) (p := 8) (v := .tmp 116) rfl rfl rfl (spec_l05Ladder.storeOp (N := N) (.tmp 8) (.tmp 116) rfl rfl rfl TW.out.i.d TW.out.i.l TW.out.l) ?_; intro w4 hw; have HI : Aside0 (spec_l05Ladder.Inv w w4 gD N u7 out1 (.slice (some ad9) ws.length c9) ws) := ⟨by rw [hw]; exact TW.out.i.row TW.out.l⟩; clear hw TW))
                  go_roundg rr
                  case measure => omega
                  case rel => exact ⟨q, N, out1, HQ.out.symm, rfl, ⟨by have := HM1.out; have := HM.out; have := HQ.out; omega⟩, HI, HT⟩
                | succ g =>
                  have hil : ii < s.size := by omega
                  have hilt : (ii : Int) < (s.size : Int) := by omega
                  have hil0 : (0 : Int) ≤ (ii : Int) := by omega
                  have hdr : (bytesOf s).drop ii = bt s (ii : Int) :: (bytesOf s).drop (ii + 1) := by
                    have hl : ii < (bytesOf s).length := by unfold bytesOf; simpa using hil
                    rw [List.drop_eq_getElem_cons hl]
                    rw [spec_l05Ladder.bt_lt hil]
                  have hok := K2.out (bt s (ii : Int)) (by
                    have : bt s (ii : Int) ∈ (bytesOf s).drop ii := by rw [hdr]; exact List.mem_cons_self
                    exact List.mem_of_mem_drop this)
                  have HT2 := HT.out
                  have HB3 := HB2.out
                  rw [hdr] at HT2 HB3
                  have hx4 := bt_at s (ii : Int)
                  rw [Int.toNat_natCast] at hx4
                  obtain ⟨c, hc⟩ : ∃ c, bt s (ii : Int) = c := ⟨_, rfl⟩
                  rw [hc] at hx4 hok HT2 HB3
                  simp only [List.map_cons, List.sum_cons] at HB3
                  have tm := spec_l05Ladder.TM c
                  have AT := Aside0.mk (spec_l05Ladder.takes c hok)
                  have AM := Aside0.mk (spec_l05Ladder.makes c hok)
                  simp only [spec_l05Ladder.next] at HT2
                  obtain ⟨tc, htc⟩ : ∃ n, spec_l05Ladder.T c = n := ⟨_, rfl⟩
                  obtain ⟨mc, hmc⟩ : ∃ n, spec_l05Ladder.M c = n := ⟨_, rfl⟩
                  rw [htc, hmc] at tm HT2 HB3
                  rw [htc] at AT
                  rw [hmc] at AM
                  obtain ⟨b0, hb0⟩ : ∃ b, decide (0 < mc) = b := ⟨_, rfl⟩
                  have hb1 : decide ((mc : Int) > 0) = b0 := by rw [← hb0]; simp
                  have hb2 : decide (0 < (mc : Int)) = b0 := by rw [← hb0]; simp
                  rw [hb0] at HT2
                  obtain ⟨ball, hball⟩ : ∃ b, (b0 && spec_l05Ladder.all D m mc) = b := ⟨_, rfl⟩
                  rw [hball] at HT2
                  have HBa := Aside0.mk hball
                  have HB4 := Aside0.mk HB3
                  have HT := Aside0.mk HT2
                  have htb : t + tc ≤ 60 := by omega
                  have hmb : m + mc ≤ 60 := by omega
                  have HC := Aside0.mk hc
                  clear HT2 HB3 HB2 hok htc hmc hdr hball hc
                  go_wp2_with (go_at_call 157; (with_reducible refine (spec_l05Makes.calls c (mc : Int) _ AM.out).mono ?_); rintro e w' ⟨rfl, ⟨nd, rfl⟩⟩; have n0_ := Aside0.mk (TW.out.drew nd); clear TW; have TW := n0_; clear n0_)
                  clear hx4
                  go_loopg [18, 19] mc (fun gq v18 v19 W => ∃ (j : Nat) (b : Bool), j + gq = mc ∧ v18 = .bool b ∧ v19 = .int .i64 (j : Int) ∧ Aside0 ((b && spec_l05Ladder.all D (m + j) gq) = ball) ∧ Aside0 (spec_l05Ladder.Two w W gD gN D N u7 out1 (.slice (some ad9) ws.length c9) ws))
                  case atStart => exact ⟨0, b0, by omega, rfl, rfl, HBa, TW⟩
                  case round =>
                    clear HBa TW
                    obtain ⟨j, b, hjg, rfl, rfl, HBa, TW⟩ := hrel
                    cases gk with
                    | zero =>
                      obtain rfl : j = mc := by omega
                      have hnlt : ¬ (j : Int) < (j : Int) := by omega
                      have hba := HBa.out
                      rw [show spec_l05Ladder.all D (m + j) 0 = true from rfl, Bool.and_true] at hba
                      subst hba
                      clear HBa
                      go_wp2
                      have HFi : Aside0 (spec_l05Ladder.fill b N t tc = spec_l05Ladder.fill b N t tc) := ⟨rfl⟩
                      go_loopg [20] tc (fun gq v20 W => ∃ (jj : Nat) (N2 : List Bool), jj + gq = tc ∧ v20 = .int .i64 (jj : Int) ∧ Aside0 (spec_l05Ladder.fill b N2 (t + jj) gq = spec_l05Ladder.fill b N t tc) ∧ Aside0 (spec_l05Ladder.Two w W gD gN D N2 u7 out1 (.slice (some ad9) ws.length c9) ws))
                      case atStart => exact ⟨0, N, by omega, rfl, HFi, TW⟩
                      case round =>
                        clear HFi TW
                        obtain ⟨jj, N2, hjj, rfl, HFi, TW⟩ := hrel
                        have hx4 := bt_at s (ii : Int)
                        rw [Int.toNat_natCast, HC.out] at hx4
                        cases gk with
                        | zero =>
                          obtain rfl : jj = tc := by omega
                          have hnlt : ¬ (jj : Int) < (jj : Int) := by omega
                          have hfi := HFi.out
                          rw [show spec_l05Ladder.fill b N2 (t + jj) 0 = N2 from rfl] at hfi
                          have HT2 := HT.out
                          rw [← hfi] at HT2
                          have HT3 := Aside0.mk HT2
                          clear HT2 hfi HFi
                          go_wp2_with (go_at_call 158; (with_reducible refine (spec_l05Takes.calls 1 c (jj : Int) _ AT.out).mono ?_); rintro e w' ⟨rfl, ⟨nd, rfl⟩⟩; have n0_ := Aside0.mk (TW.out.drew nd); clear TW; have TW := n0_; clear n0_)
                          go_roundg g
                          case measure => omega
                          case rel => exact ⟨ii + 1, t + jj, m + j, N2, by omega, (by first | rfl | (simp; done) | (congr 1; unfold wrap64; omega)), (by first | rfl | (simp; done) | (congr 1; unfold wrap64; omega)), (by first | rfl | (simp; done) | (congr 1; have := K1.out; unfold wrap64; omega)), ⟨by have := HB4.out; omega⟩, (by first | exact TW | exact ⟨by simpa [World.drewN_drewN] using TW.out⟩), HT3⟩
                        | succ gj =>
                          have hjlt : (jj : Int) < (tc : Int) := by omega
                          have hn := TW.out.bx
                          have hfi := HFi.out
                          simp only [spec_l05Ladder.fill] at hfi
                          have HF2 := Aside0.mk hfi
                          have hfz := blk_frozen TW.out.bx (t + jj)
                          have hc := spec_l05Ladder.cell TW.out.bx (t + jj) (by rw [TW.out.l]; omega)
                          have htj : ((t : Int) + (jj : Int)) < 60 := by omega
                          have htj0 : 0 ≤ ((t : Int) + (jj : Int)) := by omega
                          have htjn : ((t : Int) + (jj : Int)).toNat = t + jj := by omega
                          clear hfi HFi hn
                          go_wp2_with (go_at_call 158; (with_reducible refine (spec_l05Takes.calls 1 c (tc : Int) _ AT.out).mono ?_); rintro e w' ⟨rfl, ⟨nd, rfl⟩⟩; have n0_ := Aside0.mk ((TW.out.drew nd).put (t + jj) b); clear TW; have TW := n0_; clear n0_)
                          go_roundg gj
                          case measure => omega
                          case rel => exact ⟨jj + 1, N2.set (t + jj) b, by omega, (by first | rfl | (simp; done) | (congr 1; unfold wrap64; omega)), HF2, TW⟩
                    | succ gj =>
                      have hjlt : (j : Int) < (mc : Int) := by omega
                      have hba := HBa.out
                      simp only [spec_l05Ladder.all] at hba
                      cases b with
                      | false =>
                        have HBa2 : Aside0 ((false && spec_l05Ladder.all D (m + (j + 1)) gj) = ball) := ⟨by rw [← hba]; simp⟩
                        clear hba HBa
                        go_wp2
                        go_roundg gj
                        case measure => omega
                        case rel => exact ⟨j + 1, false, by omega, rfl, (by first | rfl | (rw [show wrap64 ((j : Int) + 1) = ((j + 1 : Nat) : Int) from by unfold wrap64; omega]) | (simp; omega)), HBa2, TW⟩
                      | true =>
                        have hc := spec_l05Ladder.cell TW.out.i.d (m + j) (by rw [TW.out.i.l]; omega)
                        obtain ⟨bj, hbj⟩ : ∃ b, D.getD (m + j) false = b := ⟨_, rfl⟩
                        rw [hbj] at hc hba
                        have hmj : ((m : Int) + (j : Int)) < 60 := by omega
                        have hmj0 : 0 ≤ ((m : Int) + (j : Int)) := by omega
                        have HBa2 : Aside0 ((bj && spec_l05Ladder.all D (m + (j + 1)) gj) = ball) := ⟨by rw [← hba, Bool.true_and]; rfl⟩
                        clear hba HBa hbj
                        have hmjn : ((m : Int) + (j : Int)).toNat = m + j := by omega
                        go_wp2
                        go_roundg gj
                        case measure => omega
                        case rel => exact ⟨j + 1, bj, by omega, rfl, (by first | rfl | (rw [show wrap64 ((j : Int) + 1) = ((j + 1 : Nat) : Int) from by unfold wrap64; omega]) | (simp; omega)), HBa2, TW⟩
          | succ g =>
            have hlt : (kk : Int) < (n : Int) := by omega
            have hk60 : kk < 60 := by have := HN60.out; omega
            have hc := spec_l05Ladder.cell HI.out.d kk (by rw [HI.out.l]; omega)
            have hk61 : (kk : Int) < 60 := by omega
            have hk0 : (0 : Int) ≤ (kk : Int) := by omega
            have HT2 := HT.out
            simp only [spec_l05Ladder.row] at HT2
            obtain ⟨b, hb⟩ : ∃ b, D.getD kk false = b := ⟨_, rfl⟩
            rw [hb] at hc HT2
            clear hb HT
            cases b with
            | false =>
              simp only [Bool.false_eq_true, if_false, List.nil_append] at HT2
              have HT := Aside0.mk HT2
              clear HT2
              go_wp2
              go_roundg g
              case measure => omega
              case rel => exact ⟨kk + 1, out1, by omega, (by first | rfl | (rw [show wrap64 ((kk : Int) + 1) = ((kk + 1 : Nat) : Int) from by unfold wrap64; omega]) | (simp; omega)), ⟨by have := HM1.out; omega⟩, HI, HT⟩
            | true =>
              simp only [if_true] at HT2
              obtain ⟨x, hx⟩ : ∃ x : S147, x = ⟨IntKind.i16.wrap (rr : Int), (kk : Int)⟩ := ⟨_, rfl⟩
              rw [← hx, ← List.append_assoc] at HT2
              have HT := Aside0.mk HT2
              have HX := Aside0.mk hx
              clear HT2 hx
              go_wp2_with ((with_reducible refine gate_builtin (b := .append) (xs := #[.tmp 50, .tmp 56]) rfl ?_); at_builtin; refine Kd.R_append k147 (w0 := w) w.heap.size rfl (.tmp 50) (.tmp 56) 74 147 (.agg #[(.int .i16 0), (.int .i16 0)]) 4 rfl Try.underlying74 info147 rfl (by decide) (by omega) u7 out1 (⟨IntKind.i16.wrap (rr : Int), (kk : Int)⟩ : S147) [.int .i16 (IntKind.i16.wrap (rr : Int)), .int .i16 ((kk : Int))] (fun _ => True) (fun _ => False) rfl rfl ?aP (fun _ hk => hk.elim) ?aF ?aO ?aB ?aS ?aL ?_; (case aP => exact k147_mkM _ _ _ (⟨IntKind.i16.wrap (rr : Int), (kk : Int)⟩ : S147)); (case aB => exact HI.out.b); (case aF => exact (fun _ _ => trivial)); (case aO => exact HI.out.o); (case aS => exact HI.out.b.size); (case aL => have := HM1.out; omega); intro v5 w5 ho hb hg hat; rw [← HX.out] at ho; have n0_ := Aside0.mk (HI.out.append ho hb hg); clear HI ho hb hg hat; have HI := n0_; clear n0_)
              go_roundg g
              case measure => omega
              case rel => exact ⟨kk + 1, out1 ++ [x], by omega, (by first | rfl | (rw [show wrap64 ((kk : Int) + 1) = ((kk + 1 : Nat) : Int) from by unfold wrap64; omega]) | (simp; omega)), ⟨by have := HM1.out; simp; omega⟩, HI, HT⟩
  · rw [if_neg hf] at h; cases h

/-! ### spec_WorstLoop: function 39 -/
def spec_WorstLoop.l0 : Nat → Int → Int → Int → Int → List ByteArray → Option (Int × Int × Int)
  | 0, _, _, _, _, _ => none
  | k + 1, x5, x6, x7, x129000, x129001 => (spec_l05Last.f k x129000 x129001 x7).bind fun t130 => (if t130 = true then ((spec_l05Ladder.f k x129000 x129001 x7 (-1)).bind fun t131 => (if (t131.length : Int) > x6 then (spec_WorstLoop.l0 k x7 (t131.length : Int) (wrap64 (x7 + 1)) x129000 x129001) else (spec_WorstLoop.l0 k x5 x6 (wrap64 (x7 + 1)) x129000 x129001))) else (if x6 = 0 then (some (0, 0, 6)) else (some (x5, x6, 0))))
def spec_WorstLoop.f (k : Nat) (a0_0 : Int) (l0_1 : List ByteArray) : Option (Int × Int × Int) := (spec_l05Ok.f k a0_0 l0_1).bind fun t129 => (if t129 = true then (spec_WorstLoop.l0 k 0 0 0 a0_0 l0_1) else (some (0, 0, 1)))
theorem spec_WorstLoop.mono_l : ∀ k, (∀ y0 y1 y2 y3 y4, LeO (spec_WorstLoop.l0 k y0 y1 y2 y3 y4) (spec_WorstLoop.l0 (k + 1) y0 y1 y2 y3 y4))
  | 0 => fun _ _ _ _ _ r h => by simp [spec_WorstLoop.l0] at h
  | k + 1 => by
    have ih0 := spec_WorstLoop.mono_l k
    · intro y0 y1 y2 y3 y4
      unfold spec_WorstLoop.l0
      repeat' first
      | (with_reducible exact ih0 _ _ _ _ _)
      | (with_reducible exact spec_l05Ladder.mono _ _ _ _ _)
      | (with_reducible exact spec_l05Last.mono _ _ _ _)
      | (with_reducible exact spec_l05Ok.mono _ _ _)
      | (with_reducible exact LeO.refl _)
      | (with_reducible exact LeO.none _)
      | (with_reducible refine LeO.ite ?_ ?_)
      | (with_reducible refine LeO.bind ?_ (fun _ => ?_))
      | exact ih0 _ _ _ _ _
      | exact spec_l05Ladder.mono _ _ _ _ _
      | exact spec_l05Last.mono _ _ _ _
      | exact spec_l05Ok.mono _ _ _
      | exact LeO.none _
      | refine LeO.ite ?_ ?_
      | refine LeO.bind ?_ (fun _ => ?_)
theorem spec_WorstLoop.mono : ∀ a0 a1 k, LeO (spec_WorstLoop.f k a0 a1) (spec_WorstLoop.f (k + 1) a0 a1) := by
  intro a0 a1 k
  have ih0 := spec_WorstLoop.mono_l k
  unfold spec_WorstLoop.f
  repeat' first
      | (with_reducible exact ih0 _ _ _ _ _)
      | (with_reducible exact spec_l05Ladder.mono _ _ _ _ _)
      | (with_reducible exact spec_l05Last.mono _ _ _ _)
      | (with_reducible exact spec_l05Ok.mono _ _ _)
      | (with_reducible exact LeO.refl _)
      | (with_reducible exact LeO.none _)
      | (with_reducible refine LeO.ite ?_ ?_)
      | (with_reducible refine LeO.bind ?_ (fun _ => ?_))
      | exact ih0 _ _ _ _ _
      | exact spec_l05Ladder.mono _ _ _ _ _
      | exact spec_l05Last.mono _ _ _ _
      | exact spec_l05Ok.mono _ _ _
      | exact LeO.none _
      | refine LeO.ite ?_ ?_
      | refine LeO.bind ?_ (fun _ => ?_)
set_option maxHeartbeats 8000000 in
set_option maxRecDepth 100000 in
theorem spec_WorstLoop.calls (k : Nat) (a0_0 : Int) (A0_1 : Option Addr) (c0_1 : Nat) (l0_1 : List ByteArray) (r1 : Int) (r2 : Int) (r3 : Int) (w : World) (hr0_1 : Kd.C Kd.string w A0_1 l0_1.length l0_1) (hc0_1 : l0_1.length ≤ c0_1) (h : spec_WorstLoop.f k a0_0 l0_1 = some (r1, r2, r3)) :
    Calls Try.prog 39 #[.agg #[.int .i16 a0_0, .slice A0_1 l0_1.length c0_1]] w fun e w' => e = .returned (.tuple #[.int .i64 r1, .int .i64 r2, .int .i64 r3]) ∧ Below w.heap.size w w' := by
  have hu59 := Try.underlying59
  have HR0_1 := Aside0.mk hr0_1
  have HC0_1 := Aside0.mk hc0_1
  clear hr0_1 hc0_1
  have HB := Aside0.mk (Below.refl w.heap.size w)
  have H : ((spec_l05Ok.f k a0_0 l0_1).bind fun t129 => (if t129 = true then (spec_WorstLoop.l0 k 0 0 0 a0_0 l0_1) else (some (0, 0, 1)))) = some (r1, r2, r3) := h
  clear h
  replace H := Option.bind_eq_some_iff.mp H
  obtain ⟨t129, A20, H⟩ := H
  replace H : (if t129 = true then (spec_WorstLoop.l0 k 0 0 0 a0_0 l0_1) else (some (0, 0, 1))) = some (r1, r2, r3) := H
  have A2 := Aside0.mk A20
  clear A20
  by_cases c3 : t129 = true
  · subst c3
    have H1 : (spec_WorstLoop.l0 k 0 0 0 a0_0 l0_1) = some (r1, r2, r3) := by rw [if_pos rfl] at H; exact H
    clear H
    have H := H1
    clear H1
    have H' := Aside0.mk H
    clear H
    go_enter Try.func39, Try.ntmps39
    go_wp2_with (first | ((with_reducible refine gate_dst (N := 1) rfl ?_); refine box_event ?hg (N := 1) ?hd (cs := #[.int .i16 a0_0, .slice A0_1 l0_1.length c0_1]) (t := 59) ?hr ?_; (case hd => rfl); (case hg => rfl); (case hr => first | (go_simp; done) | (go_simp; rfl)); intro gb128 hg w4 hbox hb; have n0_ := Aside0.mk (below_step (by repeat (first | (with_reducible first | exact HB.out | apply below_alloc | apply pw_below_drewN | apply below_drew1) | exact HB.out)) hb); have n1_ := Aside0.mk (hbox); have n2_ := Aside0.mk ((by rw [hg]; exact (below_size (by repeat (first | (with_reducible first | exact HB.out | apply below_alloc | apply pw_below_drewN | apply below_drew1) | exact HB.out))) : w.heap.size ≤ gb128)); have n3_ := Aside0.mk ((by rw [hg]; exact (below_size (by repeat (first | (with_reducible first | exact HB.out | apply below_alloc | apply pw_below_drewN | apply below_drew1) | exact HB.out))) : w.heap.size ≤ gb128)); clear HB; have HB := n0_; have BK128 := n1_; have GW128 := n2_; have GE128 := n3_; clear n0_ n1_ n2_ n3_; clear hb hbox hg) | ((with_reducible refine gate_callee (f := 108) rfl ?_); refine goesL_ (some 9) rfl rfl Try.func108 (by kernel_rfl) rfl #[.pointer (some ⟨gb128, 0, none⟩)] rfl (by (try simp only [List.map_toArray, List.map_cons, List.map_nil]); first | done | rfl | (simp only [List.length_drop, List.length_take]; rfl)) ?_; (with_reducible refine (spec_l05Ok.calls k gb128 a0_0 A0_1 c0_1 l0_1 true _ ?side1 ?side2 ?side3 A2.out).mono ?_); (case side1 => repeat (first | exact (Kd.C_below HR0_1.out HB.out) | (with_reducible refine Kd.C_alloc ?_ _) | (with_reducible refine Kd.C_drewN ?_ _) | (with_reducible refine Kd.C_drew ?_))); (case side2 => exact HC0_1.out); (case side3 => exact (by (with_reducible repeat (first | refine blk_drewN ?_ _ | refine blk_drew ?_ | refine blk_alloc ?_ _)); exact BK128.out)); rintro e w5 ⟨rfl, hb⟩; refine ⟨_, rfl, ?_⟩; have n0_ := Aside0.mk (blk_below (g := gb128) (o := .cells #[.int .i16 a0_0, .slice A0_1 l0_1.length c0_1] 59 (0, 0)) (by (with_reducible repeat (first | refine blk_drewN ?_ _ | refine blk_drew ?_ | refine blk_alloc ?_ _)); exact BK128.out) hb); have n1_ := Aside0.mk (below_step (by repeat (first | (with_reducible first | exact HB.out | apply below_alloc | apply pw_below_drewN | apply below_drew1 | refine below_set ?_ GE128.out) | exact HB.out)) hb); clear BK128; clear HB; have BK128 := n0_; have HB := n1_; clear n0_ n1_; (try clear hb); (try clear hb2); (try clear hk); (try clear hi)))
    go_loopg [5, 6, 7] k (fun kq v5 v6 v7 w' => ∃ (x5_1 : Int) (x6_1 : Int) (x7_1 : Int) (x129000_1 : Int), v5 = .int .i64 x5_1 ∧ v6 = .int .i64 x6_1 ∧ v7 = .int .i64 x7_1 ∧ Aside0 (spec_WorstLoop.l0 kq x5_1 x6_1 x7_1 x129000_1 l0_1 = some (r1, r2, r3)) ∧ Aside0 (kq ≤ k) ∧ Aside0 (w'.heap[gb128]? = some (.cells #[.int .i16 x129000_1, (.slice A0_1 l0_1.length c0_1)] 59 (0, 0))) ∧ Aside0 (Below w.heap.size w w'))
    case atStart => exact ⟨(0), (0), (0), (a0_0), (by first | rfl | (simp; done) | (simp [*]; done)), (by first | rfl | (simp; done) | (simp [*]; done)), (by first | rfl | (simp; done) | (simp [*]; done)), H', ⟨Nat.le_refl _⟩, ⟨by (with_reducible repeat (first | refine blk_drewN ?_ _ | refine blk_drew ?_ | refine blk_alloc ?_ _)); exact BK128.out⟩, ⟨by repeat (first | (with_reducible first | exact HB.out | apply below_alloc | apply pw_below_drewN | apply below_drew1 | refine below_set ?_ GE128.out) | exact HB.out)⟩⟩
    case round =>
      clear H'
      try clear c1
      try clear p2
      try clear c3
      obtain ⟨x5_1, x6_1, x7_1, x129000_1, rfl, rfl, rfl, HA, HK1, BK128, HB⟩ := hrel
      cases gk with
      | zero => exact absurd HA.out (by simp [spec_WorstLoop.l0])
      | succ k1 =>
        have H := HA.out
        clear HA
        simp only [spec_WorstLoop.l0] at H
        replace H := Option.bind_eq_some_iff.mp H
        obtain ⟨t130, A60, H⟩ := H
        replace H : (if t130 = true then ((spec_l05Ladder.f k1 x129000_1 l0_1 x7_1 (-1)).bind fun t131 => (if (t131.length : Int) > x6_1 then (spec_WorstLoop.l0 k1 x7_1 (t131.length : Int) (wrap64 (x7_1 + 1)) x129000_1 l0_1) else (spec_WorstLoop.l0 k1 x5_1 x6_1 (wrap64 (x7_1 + 1)) x129000_1 l0_1))) else (if x6_1 = 0 then (some (0, 0, 6)) else (some (x5_1, x6_1, 0)))) = some (r1, r2, r3) := H
        have A6 := Aside0.mk A60
        clear A60
        by_cases c7 : t130 = true
        · subst c7
          have H1 : ((spec_l05Ladder.f k1 x129000_1 l0_1 x7_1 (-1)).bind fun t131 => (if (t131.length : Int) > x6_1 then (spec_WorstLoop.l0 k1 x7_1 (t131.length : Int) (wrap64 (x7_1 + 1)) x129000_1 l0_1) else (spec_WorstLoop.l0 k1 x5_1 x6_1 (wrap64 (x7_1 + 1)) x129000_1 l0_1))) = some (r1, r2, r3) := by rw [if_pos rfl] at H; exact H
          clear H
          have H := H1
          clear H1
          replace H := Option.bind_eq_some_iff.mp H
          obtain ⟨t131, A80, H⟩ := H
          replace H : (if (t131.length : Int) > x6_1 then (spec_WorstLoop.l0 k1 x7_1 (t131.length : Int) (wrap64 (x7_1 + 1)) x129000_1 l0_1) else (spec_WorstLoop.l0 k1 x5_1 x6_1 (wrap64 (x7_1 + 1)) x129000_1 l0_1)) = some (r1, r2, r3) := H
          have A8 := Aside0.mk A80
          clear A80
          by_cases c9 : (t131.length : Int) > x6_1
          · rw [if_pos c9] at H
            have c9b0 : decide (x6_1 < (t131.length : Int)) = true := decide_eq_true c9
            clear c9
            have H' := Aside0.mk H
            clear H
            go_wp2_with (first | ((with_reducible refine gate_callee (f := 109) rfl ?_); refine goesL_ (some 12) rfl rfl Try.func109 (by kernel_rfl) rfl #[.pointer (some ⟨gb128, 0, none⟩), .int .i64 x7_1] rfl (by (try simp only [List.map_toArray, List.map_cons, List.map_nil]); first | done | rfl | (simp only [List.length_drop, List.length_take]; rfl)) ?_; (with_reducible refine (spec_l05Last.calls k1 gb128 x129000_1 A0_1 c0_1 l0_1 x7_1 true _ ?side1 ?side2 ?side3 A6.out).mono ?_); (case side1 => repeat (first | exact (Kd.C_below HR0_1.out HB.out) | (with_reducible refine Kd.C_alloc ?_ _) | (with_reducible refine Kd.C_drewN ?_ _) | (with_reducible refine Kd.C_drew ?_))); (case side2 => exact HC0_1.out); (case side3 => exact (by (with_reducible repeat (first | refine blk_drewN ?_ _ | refine blk_drew ?_ | refine blk_alloc ?_ _)); exact BK128.out)); rintro e w10 ⟨rfl, hb⟩; refine ⟨_, rfl, ?_⟩; have n0_ := Aside0.mk (blk_below (g := gb128) (o := .cells #[.int .i16 x129000_1, .slice A0_1 l0_1.length c0_1] 59 (0, 0)) (by (with_reducible repeat (first | refine blk_drewN ?_ _ | refine blk_drew ?_ | refine blk_alloc ?_ _)); exact BK128.out) hb); have n1_ := Aside0.mk (below_step (by repeat (first | (with_reducible first | exact HB.out | apply below_alloc | apply pw_below_drewN | apply below_drew1 | refine below_set ?_ GE128.out) | exact HB.out)) hb); clear BK128; clear HB; have BK128 := n0_; have HB := n1_; clear n0_ n1_; (try clear hb); (try clear hb2); (try clear hk); (try clear hi)) | ((with_reducible refine gate_callee (f := 110) rfl ?_); refine goesL_ (some 16) rfl rfl Try.func110 (by kernel_rfl) rfl #[.pointer (some ⟨gb128, 0, none⟩), .int .i64 x7_1, .int .i64 (-1)] rfl (by (try simp only [List.map_toArray, List.map_cons, List.map_nil]); first | done | rfl | (simp only [List.length_drop, List.length_take]; rfl)) ?_; (with_reducible refine (spec_l05Ladder.calls k1 gb128 x129000_1 A0_1 c0_1 l0_1 x7_1 (-1) t131 _ ?side1 ?side2 ?side3 A8.out).mono ?_); (case side1 => repeat (first | exact (Kd.C_below HR0_1.out HB.out) | (with_reducible refine Kd.C_alloc ?_ _) | (with_reducible refine Kd.C_drewN ?_ _) | (with_reducible refine Kd.C_drew ?_))); (case side2 => exact HC0_1.out); (case side3 => exact (by (with_reducible repeat (first | refine blk_drewN ?_ _ | refine blk_drew ?_ | refine blk_alloc ?_ _)); exact BK128.out)); rintro e w11 ⟨v132, rfl, ho0, hb⟩; refine ⟨_, rfl, ?_⟩; have n0_ := Aside0.mk (Kd.R_lower ho0 (below_size (by repeat (first | (with_reducible first | exact HB.out | apply below_alloc | apply pw_below_drewN | apply below_drew1 | refine below_set ?_ GE128.out) | exact HB.out)))); have n1_ := Aside0.mk (blk_below (g := gb128) (o := .cells #[.int .i16 x129000_1, .slice A0_1 l0_1.length c0_1] 59 (0, 0)) (by (with_reducible repeat (first | refine blk_drewN ?_ _ | refine blk_drew ?_ | refine blk_alloc ?_ _)); exact BK128.out) hb); have n2_ := Aside0.mk (below_step (by repeat (first | (with_reducible first | exact HB.out | apply below_alloc | apply pw_below_drewN | apply below_drew1 | refine below_set ?_ GE128.out) | exact HB.out)) hb); clear BK128; clear HB; have HO133 := n0_; have BK128 := n1_; have HB := n2_; clear n0_ n1_ n2_; (try clear hb); (try clear hb2); (try clear hk); (try clear hi); (try clear ho0); obtain ⟨Ao12, co12, eo12⟩ := Kd.R_slice HO133.out; subst eo12))
            go_roundg k1
            case measure => have := HK1.out; omega
            case rel => exact ⟨(x7_1), ((t131.length : Int)), (wrap64 (x7_1 + 1)), (x129000_1), (by first | rfl | (simp; done) | (simp [*]; done)), (by first | rfl | (simp; done) | (simp [*]; done)), (by first | rfl | (simp; done) | (simp [*]; done)), H', ⟨by have := HK1.out; omega⟩, ⟨by (with_reducible repeat (first | refine blk_drewN ?_ _ | refine blk_drew ?_ | refine blk_alloc ?_ _)); exact BK128.out⟩, ⟨by repeat (first | (with_reducible first | exact HB.out | apply below_alloc | apply pw_below_drewN | apply below_drew1 | refine below_set ?_ GE128.out) | exact HB.out)⟩⟩
          · rw [if_neg c9] at H
            have c9b0 : decide (x6_1 < (t131.length : Int)) = false := decide_eq_false c9
            clear c9
            have H' := Aside0.mk H
            clear H
            go_wp2_with (first | ((with_reducible refine gate_callee (f := 109) rfl ?_); refine goesL_ (some 12) rfl rfl Try.func109 (by kernel_rfl) rfl #[.pointer (some ⟨gb128, 0, none⟩), .int .i64 x7_1] rfl (by (try simp only [List.map_toArray, List.map_cons, List.map_nil]); first | done | rfl | (simp only [List.length_drop, List.length_take]; rfl)) ?_; (with_reducible refine (spec_l05Last.calls k1 gb128 x129000_1 A0_1 c0_1 l0_1 x7_1 true _ ?side1 ?side2 ?side3 A6.out).mono ?_); (case side1 => repeat (first | exact (Kd.C_below HR0_1.out HB.out) | (with_reducible refine Kd.C_alloc ?_ _) | (with_reducible refine Kd.C_drewN ?_ _) | (with_reducible refine Kd.C_drew ?_))); (case side2 => exact HC0_1.out); (case side3 => exact (by (with_reducible repeat (first | refine blk_drewN ?_ _ | refine blk_drew ?_ | refine blk_alloc ?_ _)); exact BK128.out)); rintro e w13 ⟨rfl, hb⟩; refine ⟨_, rfl, ?_⟩; have n0_ := Aside0.mk (blk_below (g := gb128) (o := .cells #[.int .i16 x129000_1, .slice A0_1 l0_1.length c0_1] 59 (0, 0)) (by (with_reducible repeat (first | refine blk_drewN ?_ _ | refine blk_drew ?_ | refine blk_alloc ?_ _)); exact BK128.out) hb); have n1_ := Aside0.mk (below_step (by repeat (first | (with_reducible first | exact HB.out | apply below_alloc | apply pw_below_drewN | apply below_drew1 | refine below_set ?_ GE128.out) | exact HB.out)) hb); clear BK128; clear HB; have BK128 := n0_; have HB := n1_; clear n0_ n1_; (try clear hb); (try clear hb2); (try clear hk); (try clear hi)) | ((with_reducible refine gate_callee (f := 110) rfl ?_); refine goesL_ (some 16) rfl rfl Try.func110 (by kernel_rfl) rfl #[.pointer (some ⟨gb128, 0, none⟩), .int .i64 x7_1, .int .i64 (-1)] rfl (by (try simp only [List.map_toArray, List.map_cons, List.map_nil]); first | done | rfl | (simp only [List.length_drop, List.length_take]; rfl)) ?_; (with_reducible refine (spec_l05Ladder.calls k1 gb128 x129000_1 A0_1 c0_1 l0_1 x7_1 (-1) t131 _ ?side1 ?side2 ?side3 A8.out).mono ?_); (case side1 => repeat (first | exact (Kd.C_below HR0_1.out HB.out) | (with_reducible refine Kd.C_alloc ?_ _) | (with_reducible refine Kd.C_drewN ?_ _) | (with_reducible refine Kd.C_drew ?_))); (case side2 => exact HC0_1.out); (case side3 => exact (by (with_reducible repeat (first | refine blk_drewN ?_ _ | refine blk_drew ?_ | refine blk_alloc ?_ _)); exact BK128.out)); rintro e w14 ⟨v132, rfl, ho0, hb⟩; refine ⟨_, rfl, ?_⟩; have n0_ := Aside0.mk (Kd.R_lower ho0 (below_size (by repeat (first | (with_reducible first | exact HB.out | apply below_alloc | apply pw_below_drewN | apply below_drew1 | refine below_set ?_ GE128.out) | exact HB.out)))); have n1_ := Aside0.mk (blk_below (g := gb128) (o := .cells #[.int .i16 x129000_1, .slice A0_1 l0_1.length c0_1] 59 (0, 0)) (by (with_reducible repeat (first | refine blk_drewN ?_ _ | refine blk_drew ?_ | refine blk_alloc ?_ _)); exact BK128.out) hb); have n2_ := Aside0.mk (below_step (by repeat (first | (with_reducible first | exact HB.out | apply below_alloc | apply pw_below_drewN | apply below_drew1 | refine below_set ?_ GE128.out) | exact HB.out)) hb); clear BK128; clear HB; have HO133 := n0_; have BK128 := n1_; have HB := n2_; clear n0_ n1_ n2_; (try clear hb); (try clear hb2); (try clear hk); (try clear hi); (try clear ho0); obtain ⟨Ao15, co15, eo15⟩ := Kd.R_slice HO133.out; subst eo15))
            go_roundg k1
            case measure => have := HK1.out; omega
            case rel => exact ⟨(x5_1), (x6_1), (wrap64 (x7_1 + 1)), (x129000_1), (by first | rfl | (simp; done) | (simp [*]; done)), (by first | rfl | (simp; done) | (simp [*]; done)), (by first | rfl | (simp; done) | (simp [*]; done)), H', ⟨by have := HK1.out; omega⟩, ⟨by (with_reducible repeat (first | refine blk_drewN ?_ _ | refine blk_drew ?_ | refine blk_alloc ?_ _)); exact BK128.out⟩, ⟨by repeat (first | (with_reducible first | exact HB.out | apply below_alloc | apply pw_below_drewN | apply below_drew1 | refine below_set ?_ GE128.out) | exact HB.out)⟩⟩
        · replace c7 := Bool.eq_false_iff.mpr c7
          subst c7
          have H1 : (if x6_1 = 0 then (some (0, 0, 6)) else (some (x5_1, x6_1, 0))) = some (r1, r2, r3) := by rw [if_neg (show ¬ (false = true) by decide)] at H; exact H
          clear H
          have H := H1
          clear H1
          by_cases c16 : x6_1 = 0
          · rw [if_pos c16] at H
            have c16b0 : (x6_1 == 0) = true := beq_iff_eq.mpr c16
            have c16b1 : (x6_1 != 0) = false := bne_eq_false_iff_eq.mpr c16
            clear c16
            simp only [Option.some.injEq, Prod.mk.injEq] at H
            obtain ⟨rfl, rfl, rfl⟩ := H
            go_wp2_with (first | ((with_reducible refine gate_callee (f := 109) rfl ?_); refine goesL_ (some 12) rfl rfl Try.func109 (by kernel_rfl) rfl #[.pointer (some ⟨gb128, 0, none⟩), .int .i64 x7_1] rfl (by (try simp only [List.map_toArray, List.map_cons, List.map_nil]); first | done | rfl | (simp only [List.length_drop, List.length_take]; rfl)) ?_; (with_reducible refine (spec_l05Last.calls k1 gb128 x129000_1 A0_1 c0_1 l0_1 x7_1 false _ ?side1 ?side2 ?side3 A6.out).mono ?_); (case side1 => repeat (first | exact (Kd.C_below HR0_1.out HB.out) | (with_reducible refine Kd.C_alloc ?_ _) | (with_reducible refine Kd.C_drewN ?_ _) | (with_reducible refine Kd.C_drew ?_))); (case side2 => exact HC0_1.out); (case side3 => exact (by (with_reducible repeat (first | refine blk_drewN ?_ _ | refine blk_drew ?_ | refine blk_alloc ?_ _)); exact BK128.out)); rintro e w17 ⟨rfl, hb⟩; refine ⟨_, rfl, ?_⟩; have n0_ := Aside0.mk (blk_below (g := gb128) (o := .cells #[.int .i16 x129000_1, .slice A0_1 l0_1.length c0_1] 59 (0, 0)) (by (with_reducible repeat (first | refine blk_drewN ?_ _ | refine blk_drew ?_ | refine blk_alloc ?_ _)); exact BK128.out) hb); have n1_ := Aside0.mk (below_step (by repeat (first | (with_reducible first | exact HB.out | apply below_alloc | apply pw_below_drewN | apply below_drew1 | refine below_set ?_ GE128.out) | exact HB.out)) hb); clear BK128; clear HB; have BK128 := n0_; have HB := n1_; clear n0_ n1_; (try clear hb); (try clear hb2); (try clear hk); (try clear hi)))
            go_ret3
            exact ⟨by first | rfl | (simp [errW_none, errW_some] <;> rfl) | (simp [*, errW_none, errW_some] <;> rfl), by repeat (first | (with_reducible first | exact HB.out | apply below_alloc | apply pw_below_drewN | apply below_drew1 | refine below_set ?_ GE128.out) | exact HB.out)⟩
          · rw [if_neg c16] at H
            have c16b0 : (x6_1 == 0) = false := beq_eq_false_iff_ne.mpr c16
            have c16b1 : (x6_1 != 0) = true := bne_iff_ne.mpr c16
            simp only [Option.some.injEq, Prod.mk.injEq] at H
            obtain ⟨rfl, rfl, rfl⟩ := H
            go_wp2_with (first | ((with_reducible refine gate_callee (f := 109) rfl ?_); refine goesL_ (some 12) rfl rfl Try.func109 (by kernel_rfl) rfl #[.pointer (some ⟨gb128, 0, none⟩), .int .i64 x7_1] rfl (by (try simp only [List.map_toArray, List.map_cons, List.map_nil]); first | done | rfl | (simp only [List.length_drop, List.length_take]; rfl)) ?_; (with_reducible refine (spec_l05Last.calls k1 gb128 x129000_1 A0_1 c0_1 l0_1 x7_1 false _ ?side1 ?side2 ?side3 A6.out).mono ?_); (case side1 => repeat (first | exact (Kd.C_below HR0_1.out HB.out) | (with_reducible refine Kd.C_alloc ?_ _) | (with_reducible refine Kd.C_drewN ?_ _) | (with_reducible refine Kd.C_drew ?_))); (case side2 => exact HC0_1.out); (case side3 => exact (by (with_reducible repeat (first | refine blk_drewN ?_ _ | refine blk_drew ?_ | refine blk_alloc ?_ _)); exact BK128.out)); rintro e w18 ⟨rfl, hb⟩; refine ⟨_, rfl, ?_⟩; have n0_ := Aside0.mk (blk_below (g := gb128) (o := .cells #[.int .i16 x129000_1, .slice A0_1 l0_1.length c0_1] 59 (0, 0)) (by (with_reducible repeat (first | refine blk_drewN ?_ _ | refine blk_drew ?_ | refine blk_alloc ?_ _)); exact BK128.out) hb); have n1_ := Aside0.mk (below_step (by repeat (first | (with_reducible first | exact HB.out | apply below_alloc | apply pw_below_drewN | apply below_drew1 | refine below_set ?_ GE128.out) | exact HB.out)) hb); clear BK128; clear HB; have BK128 := n0_; have HB := n1_; clear n0_ n1_; (try clear hb); (try clear hb2); (try clear hk); (try clear hi)))
            go_ret3
            exact ⟨by first | rfl | (simp [errW_none, errW_some] <;> rfl) | (simp [*, errW_none, errW_some] <;> rfl), by repeat (first | (with_reducible first | exact HB.out | apply below_alloc | apply pw_below_drewN | apply below_drew1 | refine below_set ?_ GE128.out) | exact HB.out)⟩
  · replace c3 := Bool.eq_false_iff.mpr c3
    subst c3
    have H1 : (some (0, 0, 1)) = some (r1, r2, r3) := by rw [if_neg (show ¬ (false = true) by decide)] at H; exact H
    clear H
    have H := H1
    clear H1
    simp only [Option.some.injEq, Prod.mk.injEq] at H
    obtain ⟨rfl, rfl, rfl⟩ := H
    go_enter Try.func39, Try.ntmps39
    go_wp2_with (first | ((with_reducible refine gate_dst (N := 1) rfl ?_); refine box_event ?hg (N := 1) ?hd (cs := #[.int .i16 a0_0, .slice A0_1 l0_1.length c0_1]) (t := 59) ?hr ?_; (case hd => rfl); (case hg => rfl); (case hr => first | (go_simp; done) | (go_simp; rfl)); intro gb128 hg w19 hbox hb; have n0_ := Aside0.mk (below_step (by repeat (first | (with_reducible first | exact HB.out | apply below_alloc | apply pw_below_drewN | apply below_drew1) | exact HB.out)) hb); have n1_ := Aside0.mk (hbox); have n2_ := Aside0.mk ((by rw [hg]; exact (below_size (by repeat (first | (with_reducible first | exact HB.out | apply below_alloc | apply pw_below_drewN | apply below_drew1) | exact HB.out))) : w.heap.size ≤ gb128)); have n3_ := Aside0.mk ((by rw [hg]; exact (below_size (by repeat (first | (with_reducible first | exact HB.out | apply below_alloc | apply pw_below_drewN | apply below_drew1) | exact HB.out))) : w.heap.size ≤ gb128)); clear HB; have HB := n0_; have BK128 := n1_; have GW128 := n2_; have GE128 := n3_; clear n0_ n1_ n2_ n3_; clear hb hbox hg) | ((with_reducible refine gate_callee (f := 108) rfl ?_); refine goesL_ (some 9) rfl rfl Try.func108 (by kernel_rfl) rfl #[.pointer (some ⟨gb128, 0, none⟩)] rfl (by (try simp only [List.map_toArray, List.map_cons, List.map_nil]); first | done | rfl | (simp only [List.length_drop, List.length_take]; rfl)) ?_; (with_reducible refine (spec_l05Ok.calls k gb128 a0_0 A0_1 c0_1 l0_1 false _ ?side1 ?side2 ?side3 A2.out).mono ?_); (case side1 => repeat (first | exact (Kd.C_below HR0_1.out HB.out) | (with_reducible refine Kd.C_alloc ?_ _) | (with_reducible refine Kd.C_drewN ?_ _) | (with_reducible refine Kd.C_drew ?_))); (case side2 => exact HC0_1.out); (case side3 => exact (by (with_reducible repeat (first | refine blk_drewN ?_ _ | refine blk_drew ?_ | refine blk_alloc ?_ _)); exact BK128.out)); rintro e w20 ⟨rfl, hb⟩; refine ⟨_, rfl, ?_⟩; have n0_ := Aside0.mk (blk_below (g := gb128) (o := .cells #[.int .i16 a0_0, .slice A0_1 l0_1.length c0_1] 59 (0, 0)) (by (with_reducible repeat (first | refine blk_drewN ?_ _ | refine blk_drew ?_ | refine blk_alloc ?_ _)); exact BK128.out) hb); have n1_ := Aside0.mk (below_step (by repeat (first | (with_reducible first | exact HB.out | apply below_alloc | apply pw_below_drewN | apply below_drew1 | refine below_set ?_ GE128.out) | exact HB.out)) hb); clear BK128; clear HB; have BK128 := n0_; have HB := n1_; clear n0_ n1_; (try clear hb); (try clear hb2); (try clear hk); (try clear hi)))
    go_ret3
    exact ⟨by first | rfl | (simp [errW_none, errW_some] <;> rfl) | (simp [*, errW_none, errW_some] <;> rfl), by repeat (first | (with_reducible first | exact HB.out | apply below_alloc | apply pw_below_drewN | apply below_drew1 | refine below_set ?_ GE128.out) | exact HB.out)⟩

end Go.Proofs.Ytjhjabibkkhmjaa.XFnExactWorstLoop
