/- The functions that the law FnPlies reaches: each as a Lean function, and that its call does what that function says; no conditions. -/
import Derived.Test.YthfanjdbemoaaaaXFnPliesx0
import Derived.Test.YthfanjdbemoaaaaXFnPliesx4
import Derived.Test.YthfanjdbemoaaaaXFnPliesx5
import Derived.Test.YthfanjdbemoaaaaXFnPliesx11
namespace Go.Proofs.Ythfanjdbemoaaaa.XFnPlies
open Go.RowKit Go.Proofs.YthfanjdbemoaaaaW.PrintWords Go.Proofs.YthfanjdbemoaaaaW.PrintLast Go.Proofs.YthfanjdbemoaaaaW.PrintMore
attribute [local go_sem] max2_int min2_int max_two min_two max_three min_three max_four min_four   -- for this text's walks alone
set_option linter.unusedVariables false
set_option linter.unusedSimpArgs false

/-! ### spec_WeakestOf: function 19 -/
mutual
def spec_WeakestOf.j0 : Nat → List (S33) → Int → Bool → Option (Int × Int × Int × Int)
  | 0, _, _, _ => none
  | k + 1, x0, x5, x16 => if x16 = true then (spec_WeakestOf.j1 k x0 6) else (spec_WeakestOf.j1 k x0 x5)
def spec_WeakestOf.j1 : Nat → List (S33) → Int → Option (Int × Int × Int × Int)
  | 0, _, _ => none
  | k + 1, x0, x5 => if x5 = 0 then (spec_WeakestOf.l0 k x0 0 1) else (some (0, 0, 0, x5))
def spec_WeakestOf.l0 : Nat → List (S33) → Int → Int → Option (Int × Int × Int × Int)
  | 0, _, _, _ => none
  | k + 1, x0, x6, x7 => if x7 < (x0.length : Int) then (if 0 ≤ x7 then (if 0 ≤ x6 then (if x6 < (x0.length : Int) then (if (wrap64 ((wrap64 ((rd_T33 x0 x7).f0)) * (wrap64 ((rd_T33 x0 x6).f2)))) > (wrap64 ((wrap64 ((rd_T33 x0 x6).f0)) * (wrap64 ((rd_T33 x0 x7).f2)))) then (spec_WeakestOf.l0 k x0 x7 (wrap64 (x7 + 1))) else (spec_WeakestOf.l0 k x0 x6 (wrap64 (x7 + 1)))) else (none)) else (none)) else (none)) else (if 0 ≤ x6 then (if x6 < (x0.length : Int) then ((spec_l03Ratio.f k (wrap64 ((rd_T33 x0 x6).f0)) (wrap64 ((rd_T33 x0 x6).f2))).bind fun bt269 => (some (x6, bt269.1, bt269.2, 0))) else (none)) else (none))
end
def spec_WeakestOf.f (k : Nat) (l0 : List (S33)) : Option (Int × Int × Int × Int) := (spec_l03Asked.f k l0 true).bind fun t262 => (if t262 = 0 then (spec_WeakestOf.j0 k l0 t262 ((l0.length : Int) == 0)) else (spec_WeakestOf.j0 k l0 t262 false))
theorem spec_WeakestOf.mono_l : ∀ k, (∀ y0 y1 y2, LeO (spec_WeakestOf.j0 k y0 y1 y2) (spec_WeakestOf.j0 (k + 1) y0 y1 y2)) ∧ (∀ y0 y1, LeO (spec_WeakestOf.j1 k y0 y1) (spec_WeakestOf.j1 (k + 1) y0 y1)) ∧ (∀ y0 y1 y2, LeO (spec_WeakestOf.l0 k y0 y1 y2) (spec_WeakestOf.l0 (k + 1) y0 y1 y2))
  | 0 => ⟨fun _ _ _ r h => by simp [spec_WeakestOf.j0] at h, fun _ _ r h => by simp [spec_WeakestOf.j1] at h, fun _ _ _ r h => by simp [spec_WeakestOf.l0] at h⟩
  | k + 1 => by
    obtain ⟨ih0, ih1, ih2⟩ := spec_WeakestOf.mono_l k
    refine ⟨?_, ?_, ?_⟩ <;> intros <;> (first | unfold spec_WeakestOf.j0 | unfold spec_WeakestOf.j1 | unfold spec_WeakestOf.l0) <;> (repeat' first | (with_reducible exact ih0 _ _ _) | (with_reducible exact ih1 _ _) | (with_reducible exact ih2 _ _ _) | (with_reducible exact spec_l03Asked.mono _ _ _) | (with_reducible exact spec_l03Ratio.mono _ _ _) | (with_reducible exact LeO.refl _) | (with_reducible exact LeO.none _) | (with_reducible refine LeO.ite ?_ ?_) | (with_reducible refine LeO.bind ?_ (fun _ => ?_)) | (with_reducible refine allG_mono _ (fun _ => ?_)) | (with_reducible refine idxG_mono _ (fun _ => ?_)) | exact ih0 _ _ _ | exact ih1 _ _ | exact ih2 _ _ _ | exact spec_l03Asked.mono _ _ _ | exact spec_l03Ratio.mono _ _ _ | exact LeO.none _ | refine LeO.ite ?_ ?_ | refine LeO.bind ?_ (fun _ => ?_))
theorem spec_WeakestOf.mono : ∀ a0 k, LeO (spec_WeakestOf.f k a0) (spec_WeakestOf.f (k + 1) a0) := by
  intro a0 k
  obtain ⟨ih0, ih1, ih2⟩ := spec_WeakestOf.mono_l k
  unfold spec_WeakestOf.f
  repeat' first
      | (with_reducible exact ih0 _ _ _)
      | (with_reducible exact ih1 _ _)
      | (with_reducible exact ih2 _ _ _)
      | (with_reducible exact spec_l03Asked.mono _ _ _)
      | (with_reducible exact spec_l03Ratio.mono _ _ _)
      | (with_reducible exact LeO.refl _)
      | (with_reducible exact LeO.none _)
      | (with_reducible refine LeO.ite ?_ ?_)
      | (with_reducible refine LeO.bind ?_ (fun _ => ?_))
      | (with_reducible refine allG_mono _ (fun _ => ?_))
      | (with_reducible refine idxG_mono _ (fun _ => ?_))
      | exact ih0 _ _ _
      | exact ih1 _ _
      | exact ih2 _ _ _
      | exact spec_l03Asked.mono _ _ _
      | exact spec_l03Ratio.mono _ _ _
      | exact LeO.none _
      | refine LeO.ite ?_ ?_
      | refine LeO.bind ?_ (fun _ => ?_)
def spec_WeakestOf.T10 : Bool × List (List Nat × List Nat) := (true, [([], []), ([], []), ([0, 1], [0, 1]), ([2], [2]), ([3], [3]), ([4], [4]), ([], []), ([], []), ([6, 7], [6, 7]), ([8], [8]), ([9], [9]), ([10], [10]), ([5, 11], [5, 11]), ([], []), ([], []), ([13, 14], [13, 14]), ([15], [15]), ([16], [16]), ([17], [17]), ([], []), ([], []), ([19, 20], [19, 20]), ([21], [21]), ([22], [22]), ([23], [23]), ([18, 24], [18, 24]), ([12, 25], [12, 25])])
def spec_WeakestOf.B10 : List Nat := [0, 0, 3, 7, 15, 31, 0, 0, 192, 448, 960, 1984, 4095, 0, 0, 24576, 57344, 122880, 253952, 0, 0, 1572864, 3670016, 7864320, 16252928, 33546240, 67108863]
theorem spec_WeakestOf.tab10 : rtab .any (opsOf Try.f19 10) = spec_WeakestOf.T10 := by kernel_rfl
theorem spec_WeakestOf.bits10 : waitsOk spec_WeakestOf.T10.2 spec_WeakestOf.B10 = true := by kernel_rfl
def spec_WeakestOf.T12 : Bool × List (List Nat × List Nat) := (true, [([], []), ([], []), ([], []), ([1, 2], [1, 2]), ([3], [3]), ([4], [4]), ([5], [5]), ([], []), ([], []), ([7, 8], [7, 8]), ([9], [9]), ([10], [10]), ([11], [11]), ([6, 12], [6, 12]), ([0, 13, 0], [0]), ([13, 14, 0, 1, 2, 3, 4, 5, 6, 7, 8, 9, 10, 11, 12, 13, 14], [13]), ([15, 0, 1, 2, 3, 4, 5, 6, 7, 8, 9, 10, 11, 12, 13, 14, 15], [])])
def spec_WeakestOf.B12 : List Nat := [0, 0, 0, 6, 14, 30, 62, 0, 0, 384, 896, 1920, 3968, 8190, 16383, 32767, 65535]
theorem spec_WeakestOf.tab12 : rtab .any (opsOf Try.f19 12) = spec_WeakestOf.T12 := by kernel_rfl
theorem spec_WeakestOf.bits12 : waitsOk spec_WeakestOf.T12.2 spec_WeakestOf.B12 = true := by kernel_rfl
set_option maxHeartbeats 8000000 in
set_option maxRecDepth 100000 in
theorem spec_WeakestOf.calls (k : Nat) (A0 : Option Addr) (c0 : Nat) (l0 : List (S33)) (r1 : Int) (r2 : Int) (r3 : Int) (r4 : Int) (w : World) (hr0 : Kd.C k33 w A0 l0.length l0) (hc0 : l0.length ≤ c0) (h : spec_WeakestOf.f k l0 = some (r1, r2, r3, r4)) :
    Calls Try.prog 19 #[.slice A0 l0.length c0] w fun e w' => e = .returned (.tuple #[.int .i64 r1, .agg #[.int .i64 r2, .int .i64 r3], .int .i64 r4]) ∧ Below w.heap.size w w' := by
 have hu43 := Try.underlying43
 have HR0 := Aside0.mk hr0
 have HC0 := Aside0.mk hc0
 clear hr0 hc0
 have HB := Aside0.mk (Below.refl w.heap.size w)
 have H : ((spec_l03Asked.f k l0 true).bind fun t262 => (if t262 = 0 then (spec_WeakestOf.j0 k l0 t262 ((l0.length : Int) == 0)) else (spec_WeakestOf.j0 k l0 t262 false))) = some (r1, r2, r3, r4) := h
 clear h
 replace H := Option.bind_eq_some_iff.mp H
 obtain ⟨t262, A20, H⟩ := H
 replace H : (if t262 = 0 then (spec_WeakestOf.j0 k l0 t262 ((l0.length : Int) == 0)) else (spec_WeakestOf.j0 k l0 t262 false)) = some (r1, r2, r3, r4) := H
 have A2 := Aside0.mk A20
 clear A20
 have HC3 := Aside0.mk H
 clear H
 go_enter Try.func19, Try.ntmps19
 go_upto_region 2 with (first | ((with_reducible refine gate_dst (N := 3) rfl ?_); (try (refine gate_guard (by rfl) ?_; dsimp only)); refine box_event ?hg (N := 3) ?hd (cs := #[.int .i64 0, .int .i64 0]) (t := 43) ?hr ?_; (case hd => rfl); (case hg => rfl); (case hr => first | (go_simp; done) | (go_simp; rfl)); intro gb261 hg w4 hbox hb; refine up4 (below_step (zb HB.out) hb) (hbox) ((by rw [hg]; exact (below_size (zb HB.out)) : w.heap.size ≤ gb261)) ((by rw [hg]; exact (below_size (zb HB.out)) : w.heap.size ≤ gb261)) ?_; clear HB; intro HB BK261 GW261 GE261; clear hb hbox hg) | ((with_reducible refine gate_callee (f := 41) rfl ?_); refine goesL_ (some 9) rfl rfl Try.func41 (by kernel_rfl) rfl #[.slice A0 l0.length c0, .bool true] rfl zr ?_; (with_reducible refine (spec_l03Asked.calls k _ _ l0 true t262 _ ?side1 ?side2 A2.out).mono ?_); (case side1 => exact zk (Kd.C_below HR0.out HB.out)); (case side2 => exact HC0.out); rintro e w5 ⟨rfl, hb⟩; refine ⟨_, rfl, ?_⟩; refine up2 (blk_below (g := gb261) (o := .cells #[.int .i64 0, .int .i64 0] 43 (0, 0)) (zq BK261.out) hb) (below_step (zb1 HB.out GE261.out) hb) ?_; clear BK261 HB; intro BK261 HB; (try clear hb); (try clear hb2); (try clear hk); (try clear hi)))
 (try simp only [Act.put, List.setIfInBounds_toArray, List.set_cons_zero, List.set_cons_succ])
 go_cut [16] (fun v16 wc => ∃ (kq : Nat) (x16_2 : Bool), v16 = .bool x16_2 ∧ Aside0 (spec_WeakestOf.j0 kq l0 t262 x16_2 = some (r1, r2, r3, r4)) ∧ Aside0 (kq ≤ k) ∧ Aside0 (wc.heap[gb261]? = some (.cells #[.int .i64 0, .int .i64 0] 43 (0, 0))) ∧ Aside0 (Below w.heap.size w wc))
 case first =>
  as_aux_lemma =>
  have H := HC3.out
  clear HC3
  by_cases c6 : t262 = 0
  rotate_left
  · rw [if_neg c6] at H
    have c6b0 : (t262 == 0) = false := beq_eq_false_iff_ne.mpr c6
    have c6b1 : (t262 != 0) = true := bne_iff_ne.mpr c6
    (first | rw [c6b0] | (simp only [i64_w, i32_w]; rw [c6b0]) | skip)
    have H' := Aside0.mk H
    clear H
    go_wp2
    go_meet
    case rel => exact ⟨_, (false), zx, H', ⟨by first | omega | exact Nat.le_refl _⟩, ⟨by (with_reducible repeat (first | refine blk_drewN ?_ _ | refine blk_drew ?_ | refine blk_alloc ?_ _)); exact BK261.out⟩, ⟨zb1 HB.out GE261.out⟩⟩
  rw [if_pos c6] at H
  have c6b0 : (t262 == 0) = true := beq_iff_eq.mpr c6
  have c6b1 : (t262 != 0) = false := bne_eq_false_iff_eq.mpr c6
  clear c6
  (first | rw [c6b0] | (simp only [i64_w, i32_w]; rw [c6b0]) | skip)
  have H' := Aside0.mk H
  clear H
  go_wp2
  go_meet
  case rel => exact ⟨_, (((l0.length : Int) == 0)), zx, H', ⟨by first | omega | exact Nat.le_refl _⟩, ⟨by (with_reducible repeat (first | refine blk_drewN ?_ _ | refine blk_drew ?_ | refine blk_alloc ?_ _)); exact BK261.out⟩, ⟨zb1 HB.out GE261.out⟩⟩
 case rest =>
 as_aux_lemma =>
 clear HC3
 try clear c1
 try clear p2
 try clear c4
 try clear c6
 try clear c6b0
 try clear c6b1
 obtain ⟨kq, x16_2, rfl, HA, HJ2, BK261, HB⟩ := hcut
 cases kq with
 | zero => exact absurd HA.out (by simp [spec_WeakestOf.j0])
 | succ kj2 =>
  have H := HA.out
  clear HA
  simp only [spec_WeakestOf.j0] at H
  have HC7 := Aside0.mk H
  clear H
  go_upto_if 16 with (fail)
  go_cut [5] (fun v5 wc => ∃ (kq : Nat) (x5_6 : Int), v5 = .int .i64 x5_6 ∧ Aside0 (spec_WeakestOf.j1 kq l0 x5_6 = some (r1, r2, r3, r4)) ∧ Aside0 (kq ≤ kj2) ∧ Aside0 (wc.heap[gb261]? = some (.cells #[.int .i64 0, .int .i64 0] 43 (0, 0))) ∧ Aside0 (Below w.heap.size w wc))
  case first =>
   as_aux_lemma =>
   have H := HC7.out
   clear HC7
   by_cases c8 : x16_2 = true
   · subst c8
     have H1 : (spec_WeakestOf.j1 kj2 l0 6) = some (r1, r2, r3, r4) := by rw [if_pos rfl] at H; exact H
     clear H
     have H := H1
     clear H1
     have H' := Aside0.mk H
     clear H
     go_wp2
     go_meet
     case rel => exact ⟨_, (6), zx, H', ⟨by have := HJ2.out; first | omega | exact Nat.le_refl _⟩, ⟨by (with_reducible repeat (first | refine blk_drewN ?_ _ | refine blk_drew ?_ | refine blk_alloc ?_ _)); exact BK261.out⟩, ⟨zb1 HB.out GE261.out⟩⟩
   replace c8 := Bool.eq_false_iff.mpr c8
   subst c8
   have H1 : (spec_WeakestOf.j1 kj2 l0 t262) = some (r1, r2, r3, r4) := by rw [if_neg (show ¬ (false = true) by decide)] at H; exact H
   clear H
   have H := H1
   clear H1
   have H' := Aside0.mk H
   clear H
   go_wp2
   go_meet
   case rel => exact ⟨_, (t262), zx, H', ⟨by have := HJ2.out; first | omega | exact Nat.le_refl _⟩, ⟨by (with_reducible repeat (first | refine blk_drewN ?_ _ | refine blk_drew ?_ | refine blk_alloc ?_ _)); exact BK261.out⟩, ⟨zb1 HB.out GE261.out⟩⟩
  case rest =>
  as_aux_lemma =>
  clear HC7
  try clear c1
  try clear p2
  try clear c4
  try clear c6
  try clear c6b0
  try clear c6b1
  try clear c8
  try clear p2
  obtain ⟨kq, x5_6, rfl, HA, HJ6, BK261, HB⟩ := hcut
  cases kq with
  | zero => exact absurd HA.out (by simp [spec_WeakestOf.j1])
  | succ kj6 =>
   have H := HA.out
   clear HA
   simp only [spec_WeakestOf.j1] at H
   by_cases c9 : x5_6 = 0
   rotate_left
   · rw [if_neg c9] at H
     have c9b0 : (x5_6 == 0) = false := beq_eq_false_iff_ne.mpr c9
     have c9b1 : (x5_6 != 0) = true := bne_iff_ne.mpr c9
     simp only [Option.some.injEq, Prod.mk.injEq] at H
     obtain ⟨rfl, rfl, rfl, rfl⟩ := H
     have hcz24_0 : wc.cell? ⟨gb261, 0, none⟩ = some (.int .i64 0) := (blk_cell BK261.out 0).trans rfl
     have hcz24_1 : wc.cell? ⟨gb261, 1, none⟩ = some (.int .i64 0) := (blk_cell BK261.out 1).trans rfl
     have hfz24_0 := blk_frozen BK261.out 0
     have hfz24_1 := blk_frozen BK261.out 1
     go_wp2
     refine bodyPost_ret (results_list (rs := [.tmp 2, .cell 3 43, .tmp 4]) rfl (by simp) (.tmp (.cell gb261 43 #[.int .i64 0, .int .i64 0] (0, 0) _ rfl (by (with_reducible repeat (first | refine blk_drewN ?_ _ | refine blk_drew ?_ | refine blk_alloc ?_ _)); refine blk_put (cs := #[.int .i64 0, .int .i64 0]) ?_ 1 _ rfl; (with_reducible repeat (first | refine blk_drewN ?_ _ | refine blk_drew ?_ | refine blk_alloc ?_ _)); refine blk_put (cs := #[.int .i64 0, .int .i64 0]) ?_ 0 _ rfl; (with_reducible repeat (first | refine blk_drewN ?_ _ | refine blk_drew ?_ | refine blk_alloc ?_ _)); exact BK261.out) Try.underlying43 rfl (by kernel_rfl) (.tmp .nil)))) rfl ?_
     exact ⟨zs, zb1 HB.out GE261.out⟩
   rw [if_pos c9] at H
   have c9b0 : (x5_6 == 0) = true := beq_iff_eq.mpr c9
   have c9b1 : (x5_6 != 0) = false := bne_eq_false_iff_eq.mpr c9
   clear c9
   have H' := Aside0.mk H
   clear H
   go_wp2
   go_loopg [6, 7] kj6 (fun kq v6 v7 w' => ∃ (x6_3 : Int) (x7_3 : Int), v6 = .int .i64 x6_3 ∧ v7 = .int .i64 x7_3 ∧ Aside0 (spec_WeakestOf.l0 kq l0 x6_3 x7_3 = some (r1, r2, r3, r4)) ∧ Aside0 (kq ≤ kj6) ∧ Aside0 (w'.heap[gb261]? = some (.cells #[.int .i64 0, .int .i64 0] 43 (0, 0))) ∧ Aside0 (Below w.heap.size w w'))
   case atStart => exact ⟨(0), (1), zx, zx, H', ⟨Nat.le_refl _⟩, ⟨by (with_reducible repeat (first | refine blk_drewN ?_ _ | refine blk_drew ?_ | refine blk_alloc ?_ _)); exact BK261.out⟩, ⟨zb1 HB.out GE261.out⟩⟩
   case round =>
   clear H'
   try clear c1
   try clear p2
   try clear c4
   try clear c6
   try clear c6b0
   try clear c6b1
   try clear c8
   try clear c9
   try clear c9b0
   try clear c9b1
   try clear p2
   obtain ⟨x6_3, x7_3, rfl, rfl, HA, HK3, BK261, HB⟩ := hrel
   cases gk with
   | zero => exact absurd HA.out (by simp [spec_WeakestOf.l0])
   | succ k3 =>
    have H := HA.out
    clear HA
    simp only [spec_WeakestOf.l0] at H
    by_cases c10 : x7_3 < (l0.length : Int)
    rotate_left
    · rw [if_neg c10] at H
      have c10b0 : decide (x7_3 < (l0.length : Int)) = false := decide_eq_false c10
      clear c10
      by_cases c17 : 0 ≤ x6_3
      rotate_left
      · rw [if_neg c17] at H
        exact absurd H (by simp)
      rw [if_pos c17] at H
      have c17b0 : decide (0 ≤ x6_3) = true := decide_eq_true c17
      clear c17
      by_cases c18 : x6_3 < (l0.length : Int)
      rotate_left
      · rw [if_neg c18] at H
        exact absurd H (by simp)
      rw [if_pos c18] at H
      have c18b0 : decide (x6_3 < (l0.length : Int)) = true := decide_eq_true c18
      clear c18
      replace H := Option.bind_eq_some_iff.mp H
      obtain ⟨⟨t269, t270⟩, A190, H⟩ := H
      replace H : (some (x6_3, t269, t270, 0)) = some (r1, r2, r3, r4) := H
      have A19 := Aside0.mk A190
      clear A190
      simp only [Option.some.injEq, Prod.mk.injEq] at H
      obtain ⟨rfl, rfl, rfl, rfl⟩ := H
      try go_wp2
      refine up2 (blk_drew BK261.out) (below_drew1 HB.out) ?_
      clear BK261 HB
      intro BK261 HB
      have p267 : 0 ≤ (x6_3 : Int) := zd
      have q267 : x6_3 < (l0.length : Int) := zd
      obtain ⟨ad267, e267, hx267_0, hx267_1, hx267_2⟩ := at_T33 HR0.out x6_3 p267 q267
      have hw267_2 := hx267_2
      have hw267_1 := hx267_1
      have hw267_0 := hx267_0
      cases e267
      replace hx267_0 := zc HB.out hx267_0
      replace hx267_1 := zc HB.out hx267_1
      replace hx267_2 := zc HB.out hx267_2
      replace p267 := eq_true p267
      replace q267 := eq_true q267
      have p268 : 0 ≤ (x6_3 : Int) := zd
      have q268 : x6_3 < (l0.length : Int) := zd
      obtain ⟨ad268, e268, hx268_0, hx268_1, hx268_2⟩ := at_T33 HR0.out x6_3 p268 q268
      have hw268_2 := hx268_2
      have hw268_1 := hx268_1
      have hw268_0 := hx268_0
      obtain rfl : ad267 = ad268 := (by injection e268)
      replace hx268_0 := zc HB.out hx268_0
      replace hx268_1 := zc HB.out hx268_1
      replace hx268_2 := zc HB.out hx268_2
      replace p268 := eq_true p268
      replace q268 := eq_true q268
      refine start_ (n := 17) (S := fun w' => w'.cell? (ad267.add ((x6_3).toNat * 3)) = some (.int .i16 ((rd_T33 l0 x6_3).f0)) ∧ w'.cell? ⟨(ad267.add ((x6_3).toNat * 3)).block, (ad267.add ((x6_3).toNat * 3)).off + 1, none⟩ = some (.int .i16 ((rd_T33 l0 x6_3).f1)) ∧ w'.cell? ⟨(ad267.add ((x6_3).toNat * 3)).block, (ad267.add ((x6_3).toNat * 3)).off + 2, none⟩ = some (.int .i16 ((rd_T33 l0 x6_3).f2)) ∧ w'.cell? (ad267.add ((x6_3).toNat * 3)) = some (.int .i16 ((rd_T33 l0 x6_3).f0)) ∧ w'.cell? ⟨(ad267.add ((x6_3).toNat * 3)).block, (ad267.add ((x6_3).toNat * 3)).off + 1, none⟩ = some (.int .i16 ((rd_T33 l0 x6_3).f1)) ∧ w'.cell? ⟨(ad267.add ((x6_3).toNat * 3)).block, (ad267.add ((x6_3).toNat * 3)).off + 2, none⟩ = some (.int .i16 ((rd_T33 l0 x6_3).f2))) (ds := []) #[false, false, false, false, false, false, false, false, false, false, false, false, false, false, false, false, false] (by kernel_rfl) rfl rfl ⟨(zc HB.out hw267_0), (zc HB.out hw267_1), (zc HB.out hw267_2), (zc HB.out hw268_0), (zc HB.out hw268_1), (zc HB.out hw268_2)⟩ (fun hHeld => ?_); refine with_tabW spec_WeakestOf.tab12 spec_WeakestOf.bits12 (fun HT_ HW_ => ?_)
      generalize wr.drew = w20 at BK261 HB hx267_0 hx267_1 hx267_2 hx268_0 hx268_1 hx268_2 hHeld ⊢
      refine pure_ (i := 0) (N := some 55) #[true, false, false, false, false, false, false, false, false, false, false, false, false, false, false, false, false] rfl rfl (any_of HT_.out (by kernel_rfl)) (fun _ _ _ h => h) (Or.inl ⟨by rfl, zy⟩) za ?_
      refine pure_ (i := 1) (N := some 56) #[true, true, false, false, false, false, false, false, false, false, false, false, false, false, false, false, false] rfl rfl (any_of HT_.out (by kernel_rfl)) (fun _ _ _ h => h) (Or.inl ⟨by rfl, zy⟩) za ?_
      refine pure_ (i := 2) (N := some 57) #[true, true, true, false, false, false, false, false, false, false, false, false, false, false, false, false, false] rfl rfl (any_of HT_.out (by kernel_rfl)) (fun _ _ _ h => h) (Or.inl ⟨by rfl, zy⟩) za ?_
      refine pure_ (i := 3) (N := some 58) #[true, true, true, true, false, false, false, false, false, false, false, false, false, false, false, false, false] rfl rfl (any_of HT_.out (by kernel_rfl)) (fun _ _ _ h => h) (Or.inl ⟨by rfl, zy⟩) za ?_
      refine pure_ (i := 4) (N := some 59) #[true, true, true, true, true, false, false, false, false, false, false, false, false, false, false, false, false] rfl rfl (any_of HT_.out (by kernel_rfl)) (fun _ _ _ h => h) (Or.inl ⟨by rfl, zy⟩) za ?_
      refine pure_ (i := 7) (N := some 62) #[true, true, true, true, true, false, false, true, false, false, false, false, false, false, false, false, false] rfl rfl (any_of HT_.out (by kernel_rfl)) (fun _ _ _ h => h) (Or.inl ⟨by rfl, zy⟩) za ?_
      refine pure_ (i := 8) (N := some 63) #[true, true, true, true, true, false, false, true, true, false, false, false, false, false, false, false, false] rfl rfl (any_of HT_.out (by kernel_rfl)) (fun _ _ _ h => h) (Or.inl ⟨by rfl, zy⟩) za ?_
      refine pure_ (i := 9) (N := some 64) #[true, true, true, true, true, false, false, true, true, true, false, false, false, false, false, false, false] rfl rfl (any_of HT_.out (by kernel_rfl)) (fun _ _ _ h => h) (Or.inl ⟨by rfl, zy⟩) za ?_
      refine pure_ (i := 10) (N := some 65) #[true, true, true, true, true, false, false, true, true, true, true, false, false, false, false, false, false] rfl rfl (any_of HT_.out (by kernel_rfl)) (fun _ _ _ h => h) (Or.inl ⟨by rfl, zy⟩) za ?_
      refine take_ (i := 5) (N := some 60) #[true, true, true, true, true, true, false, true, true, true, true, false, false, false, false, false, false] rfl rfl (take_ofW HT_.out HW_.out (by kernel_rfl)) (fun _ _ _ h => h) (Or.inl ⟨by rfl, zt6⟩) hHeld za ?_
      refine pure_ (i := 6) (N := some 61) #[true, true, true, true, true, true, true, true, true, true, true, false, false, false, false, false, false] rfl rfl (any_of HT_.out (by kernel_rfl)) (fun _ _ _ h => h) (Or.inl ⟨by rfl, zy⟩) za ?_
      refine take_ (i := 11) (N := some 66) #[true, true, true, true, true, true, true, true, true, true, true, true, false, false, false, false, false] rfl rfl (take_ofW HT_.out HW_.out (by kernel_rfl)) (fun _ _ _ h => h) (Or.inl ⟨by rfl, zt6⟩) hHeld za ?_
      refine pure_ (i := 12) (N := some 67) #[true, true, true, true, true, true, true, true, true, true, true, true, true, false, false, false, false] rfl rfl (any_of HT_.out (by kernel_rfl)) (fun _ _ _ h => h) (Or.inl ⟨by rfl, zy⟩) za ?_
      refine one_ (i := 13) (N := some 68) #[true, true, true, true, true, true, true, true, true, true, true, true, true, true, false, false, false] rfl rfl (one_of HT_.out (by kernel_rfl)) (by decide) (fun K hK => ?_)
      refine goes_ Try.func44 (by kernel_rfl) rfl #[.int .i64 (wrap64 ((rd_T33 l0 x6_3).f0)), .int .i64 (wrap64 ((rd_T33 l0 x6_3).f2))] (by rfl) rfl rfl zr ?_
      with_reducible refine (spec_l03Ratio.calls k3 (wrap64 ((rd_T33 l0 x6_3).f0)) (wrap64 ((rd_T33 l0 x6_3).f2)) t269 t270 _ A19.out).mono ?_
      rintro e w21 ⟨rfl, hb⟩
      refine ⟨_, rfl, ?_⟩
      refine up2 (blk_below (g := gb261) (o := .cells #[.int .i64 0, .int .i64 0] 43 (0, 0)) (zq BK261.out) hb) (below_step (zb1 HB.out GE261.out) hb) ?_
      clear BK261 HB
      intro BK261 HB
      (try clear hb)
      (try clear hb2)
      (try clear hk)
      (try clear hi)
      refine hK.out _ _ ⟨(zc HB.out hw267_0), (zc HB.out hw267_1), (zc HB.out hw267_2), (zc HB.out hw268_0), (zc HB.out hw268_1), (zc HB.out hw268_2)⟩ (fun hHeld => ?_)
      clear hK K
      refine norm_ za ?_
      refine pure_ (i := 14) (N := some 2) #[true, true, true, true, true, true, true, true, true, true, true, true, true, true, true, false, false] rfl rfl (any_of HT_.out (by kernel_rfl)) (fun _ _ _ h => h) (Or.inl ⟨by rfl, zy⟩) za ?_
      refine one_ (i := 15) (N := none) #[true, true, true, true, true, true, true, true, true, true, true, true, true, true, true, true, false] rfl rfl (one_of HT_.out (by kernel_rfl)) (by decide) (fun K hK => ?_)
      have hs22 : w21.cell? ⟨gb261, 0, none⟩ = some (.int .i64 0) := (blk_cell BK261.out 0).trans rfl
      have hfs22 := blk_frozen BK261.out 0
      have hs23 : w21.cell? ⟨gb261, 1, none⟩ = some (.int .i64 0) := (blk_cell BK261.out 1).trans rfl
      have hfs23 := blk_frozen BK261.out 1
      refine skip_ (w1 := ?_) (by rfl) rfl ?_ ?_
      rotate_left
      · go_simp
        rfl
      refine hK.out _ _ ⟨((cell_far (p := ⟨gb261, _, none⟩) (by first | exact Nat.ne_of_lt (Nat.lt_of_lt_of_le (by have := World.block_lt_of_cell? _ _ hw267_0; first | rwa [add_block] at this | exact this) GW261.out) | (rw [add_block]; exact Nat.ne_of_lt (Nat.lt_of_lt_of_le (by have := World.block_lt_of_cell? _ _ hw267_0; first | rwa [add_block] at this | exact this) GW261.out)) | (show (Addr.add _ _).block ≠ _; rw [add_block]; exact Nat.ne_of_lt (Nat.lt_of_lt_of_le (by have := World.block_lt_of_cell? _ _ hw267_0; first | rwa [add_block] at this | exact this) GW261.out)) | (dsimp only; exact Nat.ne_of_lt (Nat.lt_of_lt_of_le (by have := World.block_lt_of_cell? _ _ hw267_0; first | rwa [add_block] at this | exact this) GW261.out))) _).trans (((cell_far (p := ⟨gb261, _, none⟩) (by first | exact Nat.ne_of_lt (Nat.lt_of_lt_of_le (by have := World.block_lt_of_cell? _ _ hw267_0; first | rwa [add_block] at this | exact this) GW261.out) | (rw [add_block]; exact Nat.ne_of_lt (Nat.lt_of_lt_of_le (by have := World.block_lt_of_cell? _ _ hw267_0; first | rwa [add_block] at this | exact this) GW261.out)) | (show (Addr.add _ _).block ≠ _; rw [add_block]; exact Nat.ne_of_lt (Nat.lt_of_lt_of_le (by have := World.block_lt_of_cell? _ _ hw267_0; first | rwa [add_block] at this | exact this) GW261.out)) | (dsimp only; exact Nat.ne_of_lt (Nat.lt_of_lt_of_le (by have := World.block_lt_of_cell? _ _ hw267_0; first | rwa [add_block] at this | exact this) GW261.out))) _).trans (hHeld.1)))), ((cell_far (p := ⟨gb261, _, none⟩) (by first | exact Nat.ne_of_lt (Nat.lt_of_lt_of_le (by have := World.block_lt_of_cell? _ _ hw267_1; first | rwa [add_block] at this | exact this) GW261.out) | (rw [add_block]; exact Nat.ne_of_lt (Nat.lt_of_lt_of_le (by have := World.block_lt_of_cell? _ _ hw267_1; first | rwa [add_block] at this | exact this) GW261.out)) | (show (Addr.add _ _).block ≠ _; rw [add_block]; exact Nat.ne_of_lt (Nat.lt_of_lt_of_le (by have := World.block_lt_of_cell? _ _ hw267_1; first | rwa [add_block] at this | exact this) GW261.out)) | (dsimp only; exact Nat.ne_of_lt (Nat.lt_of_lt_of_le (by have := World.block_lt_of_cell? _ _ hw267_1; first | rwa [add_block] at this | exact this) GW261.out))) _).trans (((cell_far (p := ⟨gb261, _, none⟩) (by first | exact Nat.ne_of_lt (Nat.lt_of_lt_of_le (by have := World.block_lt_of_cell? _ _ hw267_1; first | rwa [add_block] at this | exact this) GW261.out) | (rw [add_block]; exact Nat.ne_of_lt (Nat.lt_of_lt_of_le (by have := World.block_lt_of_cell? _ _ hw267_1; first | rwa [add_block] at this | exact this) GW261.out)) | (show (Addr.add _ _).block ≠ _; rw [add_block]; exact Nat.ne_of_lt (Nat.lt_of_lt_of_le (by have := World.block_lt_of_cell? _ _ hw267_1; first | rwa [add_block] at this | exact this) GW261.out)) | (dsimp only; exact Nat.ne_of_lt (Nat.lt_of_lt_of_le (by have := World.block_lt_of_cell? _ _ hw267_1; first | rwa [add_block] at this | exact this) GW261.out))) _).trans (hHeld.2.1)))), ((cell_far (p := ⟨gb261, _, none⟩) (by first | exact Nat.ne_of_lt (Nat.lt_of_lt_of_le (by have := World.block_lt_of_cell? _ _ hw267_2; first | rwa [add_block] at this | exact this) GW261.out) | (rw [add_block]; exact Nat.ne_of_lt (Nat.lt_of_lt_of_le (by have := World.block_lt_of_cell? _ _ hw267_2; first | rwa [add_block] at this | exact this) GW261.out)) | (show (Addr.add _ _).block ≠ _; rw [add_block]; exact Nat.ne_of_lt (Nat.lt_of_lt_of_le (by have := World.block_lt_of_cell? _ _ hw267_2; first | rwa [add_block] at this | exact this) GW261.out)) | (dsimp only; exact Nat.ne_of_lt (Nat.lt_of_lt_of_le (by have := World.block_lt_of_cell? _ _ hw267_2; first | rwa [add_block] at this | exact this) GW261.out))) _).trans (((cell_far (p := ⟨gb261, _, none⟩) (by first | exact Nat.ne_of_lt (Nat.lt_of_lt_of_le (by have := World.block_lt_of_cell? _ _ hw267_2; first | rwa [add_block] at this | exact this) GW261.out) | (rw [add_block]; exact Nat.ne_of_lt (Nat.lt_of_lt_of_le (by have := World.block_lt_of_cell? _ _ hw267_2; first | rwa [add_block] at this | exact this) GW261.out)) | (show (Addr.add _ _).block ≠ _; rw [add_block]; exact Nat.ne_of_lt (Nat.lt_of_lt_of_le (by have := World.block_lt_of_cell? _ _ hw267_2; first | rwa [add_block] at this | exact this) GW261.out)) | (dsimp only; exact Nat.ne_of_lt (Nat.lt_of_lt_of_le (by have := World.block_lt_of_cell? _ _ hw267_2; first | rwa [add_block] at this | exact this) GW261.out))) _).trans (hHeld.2.2.1)))), ((cell_far (p := ⟨gb261, _, none⟩) (by first | exact Nat.ne_of_lt (Nat.lt_of_lt_of_le (by have := World.block_lt_of_cell? _ _ hw268_0; first | rwa [add_block] at this | exact this) GW261.out) | (rw [add_block]; exact Nat.ne_of_lt (Nat.lt_of_lt_of_le (by have := World.block_lt_of_cell? _ _ hw268_0; first | rwa [add_block] at this | exact this) GW261.out)) | (show (Addr.add _ _).block ≠ _; rw [add_block]; exact Nat.ne_of_lt (Nat.lt_of_lt_of_le (by have := World.block_lt_of_cell? _ _ hw268_0; first | rwa [add_block] at this | exact this) GW261.out)) | (dsimp only; exact Nat.ne_of_lt (Nat.lt_of_lt_of_le (by have := World.block_lt_of_cell? _ _ hw268_0; first | rwa [add_block] at this | exact this) GW261.out))) _).trans (((cell_far (p := ⟨gb261, _, none⟩) (by first | exact Nat.ne_of_lt (Nat.lt_of_lt_of_le (by have := World.block_lt_of_cell? _ _ hw268_0; first | rwa [add_block] at this | exact this) GW261.out) | (rw [add_block]; exact Nat.ne_of_lt (Nat.lt_of_lt_of_le (by have := World.block_lt_of_cell? _ _ hw268_0; first | rwa [add_block] at this | exact this) GW261.out)) | (show (Addr.add _ _).block ≠ _; rw [add_block]; exact Nat.ne_of_lt (Nat.lt_of_lt_of_le (by have := World.block_lt_of_cell? _ _ hw268_0; first | rwa [add_block] at this | exact this) GW261.out)) | (dsimp only; exact Nat.ne_of_lt (Nat.lt_of_lt_of_le (by have := World.block_lt_of_cell? _ _ hw268_0; first | rwa [add_block] at this | exact this) GW261.out))) _).trans (hHeld.2.2.2.1)))), ((cell_far (p := ⟨gb261, _, none⟩) (by first | exact Nat.ne_of_lt (Nat.lt_of_lt_of_le (by have := World.block_lt_of_cell? _ _ hw268_1; first | rwa [add_block] at this | exact this) GW261.out) | (rw [add_block]; exact Nat.ne_of_lt (Nat.lt_of_lt_of_le (by have := World.block_lt_of_cell? _ _ hw268_1; first | rwa [add_block] at this | exact this) GW261.out)) | (show (Addr.add _ _).block ≠ _; rw [add_block]; exact Nat.ne_of_lt (Nat.lt_of_lt_of_le (by have := World.block_lt_of_cell? _ _ hw268_1; first | rwa [add_block] at this | exact this) GW261.out)) | (dsimp only; exact Nat.ne_of_lt (Nat.lt_of_lt_of_le (by have := World.block_lt_of_cell? _ _ hw268_1; first | rwa [add_block] at this | exact this) GW261.out))) _).trans (((cell_far (p := ⟨gb261, _, none⟩) (by first | exact Nat.ne_of_lt (Nat.lt_of_lt_of_le (by have := World.block_lt_of_cell? _ _ hw268_1; first | rwa [add_block] at this | exact this) GW261.out) | (rw [add_block]; exact Nat.ne_of_lt (Nat.lt_of_lt_of_le (by have := World.block_lt_of_cell? _ _ hw268_1; first | rwa [add_block] at this | exact this) GW261.out)) | (show (Addr.add _ _).block ≠ _; rw [add_block]; exact Nat.ne_of_lt (Nat.lt_of_lt_of_le (by have := World.block_lt_of_cell? _ _ hw268_1; first | rwa [add_block] at this | exact this) GW261.out)) | (dsimp only; exact Nat.ne_of_lt (Nat.lt_of_lt_of_le (by have := World.block_lt_of_cell? _ _ hw268_1; first | rwa [add_block] at this | exact this) GW261.out))) _).trans (hHeld.2.2.2.2.1)))), ((cell_far (p := ⟨gb261, _, none⟩) (by first | exact Nat.ne_of_lt (Nat.lt_of_lt_of_le (by have := World.block_lt_of_cell? _ _ hw268_2; first | rwa [add_block] at this | exact this) GW261.out) | (rw [add_block]; exact Nat.ne_of_lt (Nat.lt_of_lt_of_le (by have := World.block_lt_of_cell? _ _ hw268_2; first | rwa [add_block] at this | exact this) GW261.out)) | (show (Addr.add _ _).block ≠ _; rw [add_block]; exact Nat.ne_of_lt (Nat.lt_of_lt_of_le (by have := World.block_lt_of_cell? _ _ hw268_2; first | rwa [add_block] at this | exact this) GW261.out)) | (dsimp only; exact Nat.ne_of_lt (Nat.lt_of_lt_of_le (by have := World.block_lt_of_cell? _ _ hw268_2; first | rwa [add_block] at this | exact this) GW261.out))) _).trans (((cell_far (p := ⟨gb261, _, none⟩) (by first | exact Nat.ne_of_lt (Nat.lt_of_lt_of_le (by have := World.block_lt_of_cell? _ _ hw268_2; first | rwa [add_block] at this | exact this) GW261.out) | (rw [add_block]; exact Nat.ne_of_lt (Nat.lt_of_lt_of_le (by have := World.block_lt_of_cell? _ _ hw268_2; first | rwa [add_block] at this | exact this) GW261.out)) | (show (Addr.add _ _).block ≠ _; rw [add_block]; exact Nat.ne_of_lt (Nat.lt_of_lt_of_le (by have := World.block_lt_of_cell? _ _ hw268_2; first | rwa [add_block] at this | exact this) GW261.out)) | (dsimp only; exact Nat.ne_of_lt (Nat.lt_of_lt_of_le (by have := World.block_lt_of_cell? _ _ hw268_2; first | rwa [add_block] at this | exact this) GW261.out))) _).trans (hHeld.2.2.2.2.2))))⟩ (fun hHeld => ?_)
      clear hK K
      refine pure_ (i := 16) (N := some 4) #[true, true, true, true, true, true, true, true, true, true, true, true, true, true, true, true, true] rfl rfl (any_of HT_.out (by kernel_rfl)) (fun _ _ _ h => h) (Or.inl ⟨by rfl, zy⟩) za ?_
      refine done_ (done_of HT_.out (by kernel_rfl)) ?_
      try go_wp2
      refine bodyPost_ret (results_list (rs := [.tmp 2, .cell 3 43, .tmp 4]) rfl (by simp) (.tmp (.cell gb261 43 #[.int .i64 t269, .int .i64 t270] (0, 0) _ rfl (by (with_reducible repeat (first | refine blk_drewN ?_ _ | refine blk_drew ?_ | refine blk_alloc ?_ _)); refine blk_put (cs := #[.int .i64 t269, .int .i64 0]) ?_ 1 _ rfl; (with_reducible repeat (first | refine blk_drewN ?_ _ | refine blk_drew ?_ | refine blk_alloc ?_ _)); refine blk_put (cs := #[.int .i64 0, .int .i64 0]) ?_ 0 _ rfl; (with_reducible repeat (first | refine blk_drewN ?_ _ | refine blk_drew ?_ | refine blk_alloc ?_ _)); exact BK261.out) Try.underlying43 rfl (by kernel_rfl) (.tmp .nil)))) rfl ?_
      exact ⟨zs, zb1 HB.out GE261.out⟩
    rw [if_pos c10] at H
    have c10b0 : decide (x7_3 < (l0.length : Int)) = true := decide_eq_true c10
    clear c10
    by_cases c11 : 0 ≤ x7_3
    rotate_left
    · rw [if_neg c11] at H
      exact absurd H (by simp)
    rw [if_pos c11] at H
    have c11b0 : decide (0 ≤ x7_3) = true := decide_eq_true c11
    clear c11
    by_cases c12 : 0 ≤ x6_3
    rotate_left
    · rw [if_neg c12] at H
      exact absurd H (by simp)
    rw [if_pos c12] at H
    have c12b0 : decide (0 ≤ x6_3) = true := decide_eq_true c12
    clear c12
    by_cases c13 : x6_3 < (l0.length : Int)
    rotate_left
    · rw [if_neg c13] at H
      exact absurd H (by simp)
    rw [if_pos c13] at H
    have c13b0 : decide (x6_3 < (l0.length : Int)) = true := decide_eq_true c13
    clear c13
    by_cases c14 : (wrap64 ((wrap64 ((rd_T33 l0 x7_3).f0)) * (wrap64 ((rd_T33 l0 x6_3).f2)))) > (wrap64 ((wrap64 ((rd_T33 l0 x6_3).f0)) * (wrap64 ((rd_T33 l0 x7_3).f2))))
    · rw [if_pos c14] at H
      have c14b0 : decide ((wrap64 ((wrap64 ((rd_T33 l0 x6_3).f0)) * (wrap64 ((rd_T33 l0 x7_3).f2)))) < (wrap64 ((wrap64 ((rd_T33 l0 x7_3).f0)) * (wrap64 ((rd_T33 l0 x6_3).f2))))) = true := decide_eq_true c14
      clear c14
      have H' := Aside0.mk H
      clear H
      try go_wp2
      refine up2 (blk_drew BK261.out) (below_drew1 HB.out) ?_
      clear BK261 HB
      intro BK261 HB
      have p263 : 0 ≤ (x7_3 : Int) := zd
      have q263 : x7_3 < (l0.length : Int) := zd
      obtain ⟨ad263, e263, hx263_0, hx263_1, hx263_2⟩ := at_T33 HR0.out x7_3 p263 q263
      have hw263_2 := hx263_2
      have hw263_1 := hx263_1
      have hw263_0 := hx263_0
      cases e263
      replace hx263_0 := zc HB.out hx263_0
      replace hx263_1 := zc HB.out hx263_1
      replace hx263_2 := zc HB.out hx263_2
      replace p263 := eq_true p263
      replace q263 := eq_true q263
      have p264 : 0 ≤ (x6_3 : Int) := zd
      have q264 : x6_3 < (l0.length : Int) := zd
      obtain ⟨ad264, e264, hx264_0, hx264_1, hx264_2⟩ := at_T33 HR0.out x6_3 p264 q264
      have hw264_2 := hx264_2
      have hw264_1 := hx264_1
      have hw264_0 := hx264_0
      obtain rfl : ad263 = ad264 := (by injection e264)
      replace hx264_0 := zc HB.out hx264_0
      replace hx264_1 := zc HB.out hx264_1
      replace hx264_2 := zc HB.out hx264_2
      replace p264 := eq_true p264
      replace q264 := eq_true q264
      have p265 : 0 ≤ (x6_3 : Int) := zd
      have q265 : x6_3 < (l0.length : Int) := zd
      obtain ⟨ad265, e265, hx265_0, hx265_1, hx265_2⟩ := at_T33 HR0.out x6_3 p265 q265
      have hw265_2 := hx265_2
      have hw265_1 := hx265_1
      have hw265_0 := hx265_0
      obtain rfl : ad263 = ad265 := (by injection e265)
      replace hx265_0 := zc HB.out hx265_0
      replace hx265_1 := zc HB.out hx265_1
      replace hx265_2 := zc HB.out hx265_2
      replace p265 := eq_true p265
      replace q265 := eq_true q265
      have p266 : 0 ≤ (x7_3 : Int) := zd
      have q266 : x7_3 < (l0.length : Int) := zd
      obtain ⟨ad266, e266, hx266_0, hx266_1, hx266_2⟩ := at_T33 HR0.out x7_3 p266 q266
      have hw266_2 := hx266_2
      have hw266_1 := hx266_1
      have hw266_0 := hx266_0
      obtain rfl : ad263 = ad266 := (by injection e266)
      replace hx266_0 := zc HB.out hx266_0
      replace hx266_1 := zc HB.out hx266_1
      replace hx266_2 := zc HB.out hx266_2
      replace p266 := eq_true p266
      replace q266 := eq_true q266
      refine start_ (n := 27) (S := fun w' => w'.cell? (ad263.add ((x7_3).toNat * 3)) = some (.int .i16 ((rd_T33 l0 x7_3).f0)) ∧ w'.cell? ⟨(ad263.add ((x7_3).toNat * 3)).block, (ad263.add ((x7_3).toNat * 3)).off + 1, none⟩ = some (.int .i16 ((rd_T33 l0 x7_3).f1)) ∧ w'.cell? ⟨(ad263.add ((x7_3).toNat * 3)).block, (ad263.add ((x7_3).toNat * 3)).off + 2, none⟩ = some (.int .i16 ((rd_T33 l0 x7_3).f2)) ∧ w'.cell? (ad263.add ((x6_3).toNat * 3)) = some (.int .i16 ((rd_T33 l0 x6_3).f0)) ∧ w'.cell? ⟨(ad263.add ((x6_3).toNat * 3)).block, (ad263.add ((x6_3).toNat * 3)).off + 1, none⟩ = some (.int .i16 ((rd_T33 l0 x6_3).f1)) ∧ w'.cell? ⟨(ad263.add ((x6_3).toNat * 3)).block, (ad263.add ((x6_3).toNat * 3)).off + 2, none⟩ = some (.int .i16 ((rd_T33 l0 x6_3).f2)) ∧ w'.cell? (ad263.add ((x6_3).toNat * 3)) = some (.int .i16 ((rd_T33 l0 x6_3).f0)) ∧ w'.cell? ⟨(ad263.add ((x6_3).toNat * 3)).block, (ad263.add ((x6_3).toNat * 3)).off + 1, none⟩ = some (.int .i16 ((rd_T33 l0 x6_3).f1)) ∧ w'.cell? ⟨(ad263.add ((x6_3).toNat * 3)).block, (ad263.add ((x6_3).toNat * 3)).off + 2, none⟩ = some (.int .i16 ((rd_T33 l0 x6_3).f2)) ∧ w'.cell? (ad263.add ((x7_3).toNat * 3)) = some (.int .i16 ((rd_T33 l0 x7_3).f0)) ∧ w'.cell? ⟨(ad263.add ((x7_3).toNat * 3)).block, (ad263.add ((x7_3).toNat * 3)).off + 1, none⟩ = some (.int .i16 ((rd_T33 l0 x7_3).f1)) ∧ w'.cell? ⟨(ad263.add ((x7_3).toNat * 3)).block, (ad263.add ((x7_3).toNat * 3)).off + 2, none⟩ = some (.int .i16 ((rd_T33 l0 x7_3).f2))) (ds := []) #[false, false, false, false, false, false, false, false, false, false, false, false, false, false, false, false, false, false, false, false, false, false, false, false, false, false, false] (by kernel_rfl) rfl rfl ⟨(zc HB.out hw263_0), (zc HB.out hw263_1), (zc HB.out hw263_2), (zc HB.out hw264_0), (zc HB.out hw264_1), (zc HB.out hw264_2), (zc HB.out hw265_0), (zc HB.out hw265_1), (zc HB.out hw265_2), (zc HB.out hw266_0), (zc HB.out hw266_1), (zc HB.out hw266_2)⟩ (fun hHeld => ?_); refine with_tabW spec_WeakestOf.tab10 spec_WeakestOf.bits10 (fun HT_ HW_ => ?_)
      generalize wr.drew = w15 at BK261 HB hx263_0 hx263_1 hx263_2 hx264_0 hx264_1 hx264_2 hx265_0 hx265_1 hx265_2 hx266_0 hx266_1 hx266_2 hHeld ⊢
      refine pure_ (i := 0) (N := some 27) #[true, false, false, false, false, false, false, false, false, false, false, false, false, false, false, false, false, false, false, false, false, false, false, false, false, false, false] rfl rfl (any_of HT_.out (by kernel_rfl)) (fun _ _ _ h => h) (Or.inl ⟨by rfl, zy⟩) za ?_
      refine pure_ (i := 1) (N := some 28) #[true, true, false, false, false, false, false, false, false, false, false, false, false, false, false, false, false, false, false, false, false, false, false, false, false, false, false] rfl rfl (any_of HT_.out (by kernel_rfl)) (fun _ _ _ h => h) (Or.inl ⟨by rfl, zy⟩) za ?_
      refine pure_ (i := 2) (N := some 29) #[true, true, true, false, false, false, false, false, false, false, false, false, false, false, false, false, false, false, false, false, false, false, false, false, false, false, false] rfl rfl (any_of HT_.out (by kernel_rfl)) (fun _ _ _ h => h) (Or.inl ⟨by rfl, zy⟩) za ?_
      refine pure_ (i := 3) (N := some 30) #[true, true, true, true, false, false, false, false, false, false, false, false, false, false, false, false, false, false, false, false, false, false, false, false, false, false, false] rfl rfl (any_of HT_.out (by kernel_rfl)) (fun _ _ _ h => h) (Or.inl ⟨by rfl, zy⟩) za ?_
      refine pure_ (i := 6) (N := some 33) #[true, true, true, true, false, false, true, false, false, false, false, false, false, false, false, false, false, false, false, false, false, false, false, false, false, false, false] rfl rfl (any_of HT_.out (by kernel_rfl)) (fun _ _ _ h => h) (Or.inl ⟨by rfl, zy⟩) za ?_
      refine pure_ (i := 7) (N := some 34) #[true, true, true, true, false, false, true, true, false, false, false, false, false, false, false, false, false, false, false, false, false, false, false, false, false, false, false] rfl rfl (any_of HT_.out (by kernel_rfl)) (fun _ _ _ h => h) (Or.inl ⟨by rfl, zy⟩) za ?_
      refine pure_ (i := 8) (N := some 35) #[true, true, true, true, false, false, true, true, true, false, false, false, false, false, false, false, false, false, false, false, false, false, false, false, false, false, false] rfl rfl (any_of HT_.out (by kernel_rfl)) (fun _ _ _ h => h) (Or.inl ⟨by rfl, zy⟩) za ?_
      refine pure_ (i := 9) (N := some 36) #[true, true, true, true, false, false, true, true, true, true, false, false, false, false, false, false, false, false, false, false, false, false, false, false, false, false, false] rfl rfl (any_of HT_.out (by kernel_rfl)) (fun _ _ _ h => h) (Or.inl ⟨by rfl, zy⟩) za ?_
      refine pure_ (i := 13) (N := some 40) #[true, true, true, true, false, false, true, true, true, true, false, false, false, true, false, false, false, false, false, false, false, false, false, false, false, false, false] rfl rfl (any_of HT_.out (by kernel_rfl)) (fun _ _ _ h => h) (Or.inl ⟨by rfl, zy⟩) za ?_
      refine pure_ (i := 14) (N := some 41) #[true, true, true, true, false, false, true, true, true, true, false, false, false, true, true, false, false, false, false, false, false, false, false, false, false, false, false] rfl rfl (any_of HT_.out (by kernel_rfl)) (fun _ _ _ h => h) (Or.inl ⟨by rfl, zy⟩) za ?_
      refine pure_ (i := 15) (N := some 42) #[true, true, true, true, false, false, true, true, true, true, false, false, false, true, true, true, false, false, false, false, false, false, false, false, false, false, false] rfl rfl (any_of HT_.out (by kernel_rfl)) (fun _ _ _ h => h) (Or.inl ⟨by rfl, zy⟩) za ?_
      refine pure_ (i := 16) (N := some 43) #[true, true, true, true, false, false, true, true, true, true, false, false, false, true, true, true, true, false, false, false, false, false, false, false, false, false, false] rfl rfl (any_of HT_.out (by kernel_rfl)) (fun _ _ _ h => h) (Or.inl ⟨by rfl, zy⟩) za ?_
      refine pure_ (i := 19) (N := some 46) #[true, true, true, true, false, false, true, true, true, true, false, false, false, true, true, true, true, false, false, true, false, false, false, false, false, false, false] rfl rfl (any_of HT_.out (by kernel_rfl)) (fun _ _ _ h => h) (Or.inl ⟨by rfl, zy⟩) za ?_
      refine pure_ (i := 20) (N := some 47) #[true, true, true, true, false, false, true, true, true, true, false, false, false, true, true, true, true, false, false, true, true, false, false, false, false, false, false] rfl rfl (any_of HT_.out (by kernel_rfl)) (fun _ _ _ h => h) (Or.inl ⟨by rfl, zy⟩) za ?_
      refine pure_ (i := 21) (N := some 48) #[true, true, true, true, false, false, true, true, true, true, false, false, false, true, true, true, true, false, false, true, true, true, false, false, false, false, false] rfl rfl (any_of HT_.out (by kernel_rfl)) (fun _ _ _ h => h) (Or.inl ⟨by rfl, zy⟩) za ?_
      refine pure_ (i := 22) (N := some 49) #[true, true, true, true, false, false, true, true, true, true, false, false, false, true, true, true, true, false, false, true, true, true, true, false, false, false, false] rfl rfl (any_of HT_.out (by kernel_rfl)) (fun _ _ _ h => h) (Or.inl ⟨by rfl, zy⟩) za ?_
      refine take_ (i := 4) (N := some 31) #[true, true, true, true, true, false, true, true, true, true, false, false, false, true, true, true, true, false, false, true, true, true, true, false, false, false, false] rfl rfl (take_ofW HT_.out HW_.out (by kernel_rfl)) (fun _ _ _ h => h) (Or.inl ⟨by rfl, zt12⟩) hHeld za ?_
      refine pure_ (i := 5) (N := some 32) #[true, true, true, true, true, true, true, true, true, true, false, false, false, true, true, true, true, false, false, true, true, true, true, false, false, false, false] rfl rfl (any_of HT_.out (by kernel_rfl)) (fun _ _ _ h => h) (Or.inl ⟨by rfl, zy⟩) za ?_
      refine take_ (i := 10) (N := some 37) #[true, true, true, true, true, true, true, true, true, true, true, false, false, true, true, true, true, false, false, true, true, true, true, false, false, false, false] rfl rfl (take_ofW HT_.out HW_.out (by kernel_rfl)) (fun _ _ _ h => h) (Or.inl ⟨by rfl, zt12⟩) hHeld za ?_
      refine pure_ (i := 11) (N := some 38) #[true, true, true, true, true, true, true, true, true, true, true, true, false, true, true, true, true, false, false, true, true, true, true, false, false, false, false] rfl rfl (any_of HT_.out (by kernel_rfl)) (fun _ _ _ h => h) (Or.inl ⟨by rfl, zy⟩) za ?_
      refine pure_ (i := 12) (N := some 39) #[true, true, true, true, true, true, true, true, true, true, true, true, true, true, true, true, true, false, false, true, true, true, true, false, false, false, false] rfl rfl (any_of HT_.out (by kernel_rfl)) (fun _ _ _ h => h) (Or.inl ⟨by rfl, zy⟩) za ?_
      refine take_ (i := 17) (N := some 44) #[true, true, true, true, true, true, true, true, true, true, true, true, true, true, true, true, true, true, false, true, true, true, true, false, false, false, false] rfl rfl (take_ofW HT_.out HW_.out (by kernel_rfl)) (fun _ _ _ h => h) (Or.inl ⟨by rfl, zt12⟩) hHeld za ?_
      refine pure_ (i := 18) (N := some 45) #[true, true, true, true, true, true, true, true, true, true, true, true, true, true, true, true, true, true, true, true, true, true, true, false, false, false, false] rfl rfl (any_of HT_.out (by kernel_rfl)) (fun _ _ _ h => h) (Or.inl ⟨by rfl, zy⟩) za ?_
      refine take_ (i := 23) (N := some 50) #[true, true, true, true, true, true, true, true, true, true, true, true, true, true, true, true, true, true, true, true, true, true, true, true, false, false, false] rfl rfl (take_ofW HT_.out HW_.out (by kernel_rfl)) (fun _ _ _ h => h) (Or.inl ⟨by rfl, zt12⟩) hHeld za ?_
      refine pure_ (i := 24) (N := some 51) #[true, true, true, true, true, true, true, true, true, true, true, true, true, true, true, true, true, true, true, true, true, true, true, true, true, false, false] rfl rfl (any_of HT_.out (by kernel_rfl)) (fun _ _ _ h => h) (Or.inl ⟨by rfl, zy⟩) za ?_
      refine pure_ (i := 25) (N := some 52) #[true, true, true, true, true, true, true, true, true, true, true, true, true, true, true, true, true, true, true, true, true, true, true, true, true, true, false] rfl rfl (any_of HT_.out (by kernel_rfl)) (fun _ _ _ h => h) (Or.inl ⟨by rfl, zy⟩) za ?_
      refine pure_ (i := 26) (N := some 53) #[true, true, true, true, true, true, true, true, true, true, true, true, true, true, true, true, true, true, true, true, true, true, true, true, true, true, true] rfl rfl (any_of HT_.out (by kernel_rfl)) (fun _ _ _ h => h) (Or.inl ⟨by rfl, zy⟩) za ?_
      refine done_ (done_of HT_.out (by kernel_rfl)) ?_
      try go_wp2
      go_roundg k3
      case measure => have := HJ2.out; have := HJ6.out; have := HK3.out; omega
      case rel => exact ⟨(x7_3), (wrap64 (x7_3 + 1)), zx, zx, H', ⟨by have := HJ2.out; have := HJ6.out; have := HK3.out; omega⟩, ⟨by (with_reducible repeat (first | refine blk_drewN ?_ _ | refine blk_drew ?_ | refine blk_alloc ?_ _)); exact BK261.out⟩, ⟨zb1 HB.out GE261.out⟩⟩
    rw [if_neg c14] at H
    have c14b0 : decide ((wrap64 ((wrap64 ((rd_T33 l0 x6_3).f0)) * (wrap64 ((rd_T33 l0 x7_3).f2)))) < (wrap64 ((wrap64 ((rd_T33 l0 x7_3).f0)) * (wrap64 ((rd_T33 l0 x6_3).f2))))) = false := decide_eq_false c14
    clear c14
    have H' := Aside0.mk H
    clear H
    try go_wp2
    refine up2 (blk_drew BK261.out) (below_drew1 HB.out) ?_
    clear BK261 HB
    intro BK261 HB
    have p263 : 0 ≤ (x7_3 : Int) := zd
    have q263 : x7_3 < (l0.length : Int) := zd
    obtain ⟨ad263, e263, hx263_0, hx263_1, hx263_2⟩ := at_T33 HR0.out x7_3 p263 q263
    have hw263_2 := hx263_2
    have hw263_1 := hx263_1
    have hw263_0 := hx263_0
    cases e263
    replace hx263_0 := zc HB.out hx263_0
    replace hx263_1 := zc HB.out hx263_1
    replace hx263_2 := zc HB.out hx263_2
    replace p263 := eq_true p263
    replace q263 := eq_true q263
    have p264 : 0 ≤ (x6_3 : Int) := zd
    have q264 : x6_3 < (l0.length : Int) := zd
    obtain ⟨ad264, e264, hx264_0, hx264_1, hx264_2⟩ := at_T33 HR0.out x6_3 p264 q264
    have hw264_2 := hx264_2
    have hw264_1 := hx264_1
    have hw264_0 := hx264_0
    obtain rfl : ad263 = ad264 := (by injection e264)
    replace hx264_0 := zc HB.out hx264_0
    replace hx264_1 := zc HB.out hx264_1
    replace hx264_2 := zc HB.out hx264_2
    replace p264 := eq_true p264
    replace q264 := eq_true q264
    have p265 : 0 ≤ (x6_3 : Int) := zd
    have q265 : x6_3 < (l0.length : Int) := zd
    obtain ⟨ad265, e265, hx265_0, hx265_1, hx265_2⟩ := at_T33 HR0.out x6_3 p265 q265
    have hw265_2 := hx265_2
    have hw265_1 := hx265_1
    have hw265_0 := hx265_0
    obtain rfl : ad263 = ad265 := (by injection e265)
    replace hx265_0 := zc HB.out hx265_0
    replace hx265_1 := zc HB.out hx265_1
    replace hx265_2 := zc HB.out hx265_2
    replace p265 := eq_true p265
    replace q265 := eq_true q265
    have p266 : 0 ≤ (x7_3 : Int) := zd
    have q266 : x7_3 < (l0.length : Int) := zd
    obtain ⟨ad266, e266, hx266_0, hx266_1, hx266_2⟩ := at_T33 HR0.out x7_3 p266 q266
    have hw266_2 := hx266_2
    have hw266_1 := hx266_1
    have hw266_0 := hx266_0
    obtain rfl : ad263 = ad266 := (by injection e266)
    replace hx266_0 := zc HB.out hx266_0
    replace hx266_1 := zc HB.out hx266_1
    replace hx266_2 := zc HB.out hx266_2
    replace p266 := eq_true p266
    replace q266 := eq_true q266
    refine start_ (n := 27) (S := fun w' => w'.cell? (ad263.add ((x7_3).toNat * 3)) = some (.int .i16 ((rd_T33 l0 x7_3).f0)) ∧ w'.cell? ⟨(ad263.add ((x7_3).toNat * 3)).block, (ad263.add ((x7_3).toNat * 3)).off + 1, none⟩ = some (.int .i16 ((rd_T33 l0 x7_3).f1)) ∧ w'.cell? ⟨(ad263.add ((x7_3).toNat * 3)).block, (ad263.add ((x7_3).toNat * 3)).off + 2, none⟩ = some (.int .i16 ((rd_T33 l0 x7_3).f2)) ∧ w'.cell? (ad263.add ((x6_3).toNat * 3)) = some (.int .i16 ((rd_T33 l0 x6_3).f0)) ∧ w'.cell? ⟨(ad263.add ((x6_3).toNat * 3)).block, (ad263.add ((x6_3).toNat * 3)).off + 1, none⟩ = some (.int .i16 ((rd_T33 l0 x6_3).f1)) ∧ w'.cell? ⟨(ad263.add ((x6_3).toNat * 3)).block, (ad263.add ((x6_3).toNat * 3)).off + 2, none⟩ = some (.int .i16 ((rd_T33 l0 x6_3).f2)) ∧ w'.cell? (ad263.add ((x6_3).toNat * 3)) = some (.int .i16 ((rd_T33 l0 x6_3).f0)) ∧ w'.cell? ⟨(ad263.add ((x6_3).toNat * 3)).block, (ad263.add ((x6_3).toNat * 3)).off + 1, none⟩ = some (.int .i16 ((rd_T33 l0 x6_3).f1)) ∧ w'.cell? ⟨(ad263.add ((x6_3).toNat * 3)).block, (ad263.add ((x6_3).toNat * 3)).off + 2, none⟩ = some (.int .i16 ((rd_T33 l0 x6_3).f2)) ∧ w'.cell? (ad263.add ((x7_3).toNat * 3)) = some (.int .i16 ((rd_T33 l0 x7_3).f0)) ∧ w'.cell? ⟨(ad263.add ((x7_3).toNat * 3)).block, (ad263.add ((x7_3).toNat * 3)).off + 1, none⟩ = some (.int .i16 ((rd_T33 l0 x7_3).f1)) ∧ w'.cell? ⟨(ad263.add ((x7_3).toNat * 3)).block, (ad263.add ((x7_3).toNat * 3)).off + 2, none⟩ = some (.int .i16 ((rd_T33 l0 x7_3).f2))) (ds := []) #[false, false, false, false, false, false, false, false, false, false, false, false, false, false, false, false, false, false, false, false, false, false, false, false, false, false, false] (by kernel_rfl) rfl rfl ⟨(zc HB.out hw263_0), (zc HB.out hw263_1), (zc HB.out hw263_2), (zc HB.out hw264_0), (zc HB.out hw264_1), (zc HB.out hw264_2), (zc HB.out hw265_0), (zc HB.out hw265_1), (zc HB.out hw265_2), (zc HB.out hw266_0), (zc HB.out hw266_1), (zc HB.out hw266_2)⟩ (fun hHeld => ?_); refine with_tabW spec_WeakestOf.tab10 spec_WeakestOf.bits10 (fun HT_ HW_ => ?_)
    generalize wr.drew = w16 at BK261 HB hx263_0 hx263_1 hx263_2 hx264_0 hx264_1 hx264_2 hx265_0 hx265_1 hx265_2 hx266_0 hx266_1 hx266_2 hHeld ⊢
    refine pure_ (i := 0) (N := some 27) #[true, false, false, false, false, false, false, false, false, false, false, false, false, false, false, false, false, false, false, false, false, false, false, false, false, false, false] rfl rfl (any_of HT_.out (by kernel_rfl)) (fun _ _ _ h => h) (Or.inl ⟨by rfl, zy⟩) za ?_
    refine pure_ (i := 1) (N := some 28) #[true, true, false, false, false, false, false, false, false, false, false, false, false, false, false, false, false, false, false, false, false, false, false, false, false, false, false] rfl rfl (any_of HT_.out (by kernel_rfl)) (fun _ _ _ h => h) (Or.inl ⟨by rfl, zy⟩) za ?_
    refine pure_ (i := 2) (N := some 29) #[true, true, true, false, false, false, false, false, false, false, false, false, false, false, false, false, false, false, false, false, false, false, false, false, false, false, false] rfl rfl (any_of HT_.out (by kernel_rfl)) (fun _ _ _ h => h) (Or.inl ⟨by rfl, zy⟩) za ?_
    refine pure_ (i := 3) (N := some 30) #[true, true, true, true, false, false, false, false, false, false, false, false, false, false, false, false, false, false, false, false, false, false, false, false, false, false, false] rfl rfl (any_of HT_.out (by kernel_rfl)) (fun _ _ _ h => h) (Or.inl ⟨by rfl, zy⟩) za ?_
    refine pure_ (i := 6) (N := some 33) #[true, true, true, true, false, false, true, false, false, false, false, false, false, false, false, false, false, false, false, false, false, false, false, false, false, false, false] rfl rfl (any_of HT_.out (by kernel_rfl)) (fun _ _ _ h => h) (Or.inl ⟨by rfl, zy⟩) za ?_
    refine pure_ (i := 7) (N := some 34) #[true, true, true, true, false, false, true, true, false, false, false, false, false, false, false, false, false, false, false, false, false, false, false, false, false, false, false] rfl rfl (any_of HT_.out (by kernel_rfl)) (fun _ _ _ h => h) (Or.inl ⟨by rfl, zy⟩) za ?_
    refine pure_ (i := 8) (N := some 35) #[true, true, true, true, false, false, true, true, true, false, false, false, false, false, false, false, false, false, false, false, false, false, false, false, false, false, false] rfl rfl (any_of HT_.out (by kernel_rfl)) (fun _ _ _ h => h) (Or.inl ⟨by rfl, zy⟩) za ?_
    refine pure_ (i := 9) (N := some 36) #[true, true, true, true, false, false, true, true, true, true, false, false, false, false, false, false, false, false, false, false, false, false, false, false, false, false, false] rfl rfl (any_of HT_.out (by kernel_rfl)) (fun _ _ _ h => h) (Or.inl ⟨by rfl, zy⟩) za ?_
    refine pure_ (i := 13) (N := some 40) #[true, true, true, true, false, false, true, true, true, true, false, false, false, true, false, false, false, false, false, false, false, false, false, false, false, false, false] rfl rfl (any_of HT_.out (by kernel_rfl)) (fun _ _ _ h => h) (Or.inl ⟨by rfl, zy⟩) za ?_
    refine pure_ (i := 14) (N := some 41) #[true, true, true, true, false, false, true, true, true, true, false, false, false, true, true, false, false, false, false, false, false, false, false, false, false, false, false] rfl rfl (any_of HT_.out (by kernel_rfl)) (fun _ _ _ h => h) (Or.inl ⟨by rfl, zy⟩) za ?_
    refine pure_ (i := 15) (N := some 42) #[true, true, true, true, false, false, true, true, true, true, false, false, false, true, true, true, false, false, false, false, false, false, false, false, false, false, false] rfl rfl (any_of HT_.out (by kernel_rfl)) (fun _ _ _ h => h) (Or.inl ⟨by rfl, zy⟩) za ?_
    refine pure_ (i := 16) (N := some 43) #[true, true, true, true, false, false, true, true, true, true, false, false, false, true, true, true, true, false, false, false, false, false, false, false, false, false, false] rfl rfl (any_of HT_.out (by kernel_rfl)) (fun _ _ _ h => h) (Or.inl ⟨by rfl, zy⟩) za ?_
    refine pure_ (i := 19) (N := some 46) #[true, true, true, true, false, false, true, true, true, true, false, false, false, true, true, true, true, false, false, true, false, false, false, false, false, false, false] rfl rfl (any_of HT_.out (by kernel_rfl)) (fun _ _ _ h => h) (Or.inl ⟨by rfl, zy⟩) za ?_
    refine pure_ (i := 20) (N := some 47) #[true, true, true, true, false, false, true, true, true, true, false, false, false, true, true, true, true, false, false, true, true, false, false, false, false, false, false] rfl rfl (any_of HT_.out (by kernel_rfl)) (fun _ _ _ h => h) (Or.inl ⟨by rfl, zy⟩) za ?_
    refine pure_ (i := 21) (N := some 48) #[true, true, true, true, false, false, true, true, true, true, false, false, false, true, true, true, true, false, false, true, true, true, false, false, false, false, false] rfl rfl (any_of HT_.out (by kernel_rfl)) (fun _ _ _ h => h) (Or.inl ⟨by rfl, zy⟩) za ?_
    refine pure_ (i := 22) (N := some 49) #[true, true, true, true, false, false, true, true, true, true, false, false, false, true, true, true, true, false, false, true, true, true, true, false, false, false, false] rfl rfl (any_of HT_.out (by kernel_rfl)) (fun _ _ _ h => h) (Or.inl ⟨by rfl, zy⟩) za ?_
    refine take_ (i := 4) (N := some 31) #[true, true, true, true, true, false, true, true, true, true, false, false, false, true, true, true, true, false, false, true, true, true, true, false, false, false, false] rfl rfl (take_ofW HT_.out HW_.out (by kernel_rfl)) (fun _ _ _ h => h) (Or.inl ⟨by rfl, zt12⟩) hHeld za ?_
    refine pure_ (i := 5) (N := some 32) #[true, true, true, true, true, true, true, true, true, true, false, false, false, true, true, true, true, false, false, true, true, true, true, false, false, false, false] rfl rfl (any_of HT_.out (by kernel_rfl)) (fun _ _ _ h => h) (Or.inl ⟨by rfl, zy⟩) za ?_
    refine take_ (i := 10) (N := some 37) #[true, true, true, true, true, true, true, true, true, true, true, false, false, true, true, true, true, false, false, true, true, true, true, false, false, false, false] rfl rfl (take_ofW HT_.out HW_.out (by kernel_rfl)) (fun _ _ _ h => h) (Or.inl ⟨by rfl, zt12⟩) hHeld za ?_
    refine pure_ (i := 11) (N := some 38) #[true, true, true, true, true, true, true, true, true, true, true, true, false, true, true, true, true, false, false, true, true, true, true, false, false, false, false] rfl rfl (any_of HT_.out (by kernel_rfl)) (fun _ _ _ h => h) (Or.inl ⟨by rfl, zy⟩) za ?_
    refine pure_ (i := 12) (N := some 39) #[true, true, true, true, true, true, true, true, true, true, true, true, true, true, true, true, true, false, false, true, true, true, true, false, false, false, false] rfl rfl (any_of HT_.out (by kernel_rfl)) (fun _ _ _ h => h) (Or.inl ⟨by rfl, zy⟩) za ?_
    refine take_ (i := 17) (N := some 44) #[true, true, true, true, true, true, true, true, true, true, true, true, true, true, true, true, true, true, false, true, true, true, true, false, false, false, false] rfl rfl (take_ofW HT_.out HW_.out (by kernel_rfl)) (fun _ _ _ h => h) (Or.inl ⟨by rfl, zt12⟩) hHeld za ?_
    refine pure_ (i := 18) (N := some 45) #[true, true, true, true, true, true, true, true, true, true, true, true, true, true, true, true, true, true, true, true, true, true, true, false, false, false, false] rfl rfl (any_of HT_.out (by kernel_rfl)) (fun _ _ _ h => h) (Or.inl ⟨by rfl, zy⟩) za ?_
    refine take_ (i := 23) (N := some 50) #[true, true, true, true, true, true, true, true, true, true, true, true, true, true, true, true, true, true, true, true, true, true, true, true, false, false, false] rfl rfl (take_ofW HT_.out HW_.out (by kernel_rfl)) (fun _ _ _ h => h) (Or.inl ⟨by rfl, zt12⟩) hHeld za ?_
    refine pure_ (i := 24) (N := some 51) #[true, true, true, true, true, true, true, true, true, true, true, true, true, true, true, true, true, true, true, true, true, true, true, true, true, false, false] rfl rfl (any_of HT_.out (by kernel_rfl)) (fun _ _ _ h => h) (Or.inl ⟨by rfl, zy⟩) za ?_
    refine pure_ (i := 25) (N := some 52) #[true, true, true, true, true, true, true, true, true, true, true, true, true, true, true, true, true, true, true, true, true, true, true, true, true, true, false] rfl rfl (any_of HT_.out (by kernel_rfl)) (fun _ _ _ h => h) (Or.inl ⟨by rfl, zy⟩) za ?_
    refine pure_ (i := 26) (N := some 53) #[true, true, true, true, true, true, true, true, true, true, true, true, true, true, true, true, true, true, true, true, true, true, true, true, true, true, true] rfl rfl (any_of HT_.out (by kernel_rfl)) (fun _ _ _ h => h) (Or.inl ⟨by rfl, zy⟩) za ?_
    refine done_ (done_of HT_.out (by kernel_rfl)) ?_
    try go_wp2
    go_roundg k3
    case measure => have := HJ2.out; have := HJ6.out; have := HK3.out; omega
    case rel => exact ⟨(x6_3), (wrap64 (x7_3 + 1)), zx, zx, H', ⟨by have := HJ2.out; have := HJ6.out; have := HK3.out; omega⟩, ⟨by (with_reducible repeat (first | refine blk_drewN ?_ _ | refine blk_drew ?_ | refine blk_alloc ?_ _)); exact BK261.out⟩, ⟨zb1 HB.out GE261.out⟩⟩

end Go.Proofs.Ythfanjdbemoaaaa.XFnPlies
