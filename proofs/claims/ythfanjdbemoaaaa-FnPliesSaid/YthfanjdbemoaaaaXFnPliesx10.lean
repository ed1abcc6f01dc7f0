/- The functions that the law FnPlies reaches: each as a Lean function, and that its call does what that function says; no conditions. -/
import Derived.Test.YthfanjdbemoaaaaXFnPliesx0
import Derived.Test.YthfanjdbemoaaaaXFnPliesx4
import Derived.Test.YthfanjdbemoaaaaXFnPliesx9
namespace Go.Proofs.Ythfanjdbemoaaaa.XFnPlies
open Go.RowKit Go.Proofs.YthfanjdbemoaaaaW.PrintWords Go.Proofs.YthfanjdbemoaaaaW.PrintLast Go.Proofs.YthfanjdbemoaaaaW.PrintMore
attribute [local go_sem] max2_int min2_int max_two min_two max_three min_three max_four min_four   -- for this text's walks alone
set_option linter.unusedVariables false
set_option linter.unusedSimpArgs false

/-! ### impl_WeakestOf: function 18 -/
def impl_WeakestOf.l0 : Nat → List (S33) → Int → List (S33) → Int → Int → Option (Int × Int × Int × Int)
  | 0, _, _, _, _, _ => none
  | k + 1, x0, x6, x21, x22, x23 => if x23 < x22 then (if 0 ≤ x23 then (if x23 < (x21.length : Int) then ((impl_Yarn_count.f k ((rd_T33 x21 x23).f0) ((rd_T33 x21 x23).f1) ((rd_T33 x21 x23).f2)).bind fun bt248 => (if 0 ≤ x6 then (if x6 < (x0.length : Int) then ((impl_Yarn_count.f k ((rd_T33 x0 x6).f0) ((rd_T33 x0 x6).f1) ((rd_T33 x0 x6).f2)).bind fun bt251 => (if (wrap64 (bt248.1 * bt251.2)) > (wrap64 (bt251.1 * bt248.2)) then (impl_WeakestOf.l0 k x0 x23 x21 x22 (wrap64 (x23 + 1))) else (impl_WeakestOf.l0 k x0 x6 x21 x22 (wrap64 (x23 + 1))))) else (none)) else (none))) else (none)) else (none)) else (if 0 ≤ x6 then (if x6 < (x0.length : Int) then ((impl_Yarn_count.f k ((rd_T33 x0 x6).f0) ((rd_T33 x0 x6).f1) ((rd_T33 x0 x6).f2)).bind fun bt244 => (some (x6, bt244.1, bt244.2, 0))) else (none)) else (none))
def impl_WeakestOf.f (k : Nat) (l0 : List (S33)) : Option (Int × Int × Int × Int) := (impl_yarnsCode.f l0 true).bind fun t242 => (if t242 = 0 then (if (l0.length : Int) = 0 then (some (0, 0, 0, 6)) else (impl_WeakestOf.l0 k l0 0 l0 (l0.length : Int) 0)) else (some (0, 0, 0, t242)))
theorem impl_WeakestOf.mono_l : ∀ k, (∀ y0 y1 y2 y3 y4, LeO (impl_WeakestOf.l0 k y0 y1 y2 y3 y4) (impl_WeakestOf.l0 (k + 1) y0 y1 y2 y3 y4))
  | 0 => fun _ _ _ _ _ r h => by simp [impl_WeakestOf.l0] at h
  | k + 1 => by
    have ih0 := impl_WeakestOf.mono_l k
    · intro y0 y1 y2 y3 y4
      unfold impl_WeakestOf.l0
      repeat' first
      | (with_reducible exact ih0 _ _ _ _ _)
      | (with_reducible exact impl_Yarn_count.mono _ _ _ _)
      | (with_reducible exact LeO.refl _)
      | (with_reducible exact LeO.none _)
      | (with_reducible refine LeO.ite ?_ ?_)
      | (with_reducible refine LeO.bind ?_ (fun _ => ?_))
      | (with_reducible refine allG_mono _ (fun _ => ?_))
      | (with_reducible refine idxG_mono _ (fun _ => ?_))
      | exact ih0 _ _ _ _ _
      | exact impl_Yarn_count.mono _ _ _ _
      | exact LeO.none _
      | refine LeO.ite ?_ ?_
      | refine LeO.bind ?_ (fun _ => ?_)
theorem impl_WeakestOf.mono : ∀ a0 k, LeO (impl_WeakestOf.f k a0) (impl_WeakestOf.f (k + 1) a0) := by
  intro a0 k
  have ih0 := impl_WeakestOf.mono_l k
  unfold impl_WeakestOf.f
  repeat' first
      | (with_reducible exact ih0 _ _ _ _ _)
      | (with_reducible exact impl_Yarn_count.mono _ _ _ _)
      | (with_reducible exact LeO.refl _)
      | (with_reducible exact LeO.none _)
      | (with_reducible refine LeO.ite ?_ ?_)
      | (with_reducible refine LeO.bind ?_ (fun _ => ?_))
      | (with_reducible refine allG_mono _ (fun _ => ?_))
      | (with_reducible refine idxG_mono _ (fun _ => ?_))
      | exact ih0 _ _ _ _ _
      | exact impl_Yarn_count.mono _ _ _ _
      | exact LeO.none _
      | refine LeO.ite ?_ ?_
      | refine LeO.bind ?_ (fun _ => ?_)
def impl_WeakestOf.T10 : Bool × List (List Nat × List Nat) := (true, [([], []), ([0], [0]), ([], []), ([], []), ([2, 3], [2, 3]), ([4], [4]), ([5, 1], [5]), ([], []), ([], []), ([7, 1, 6, 0, 1, 7, 8], [1, 7]), ([8, 6, 9, 0, 1, 2, 3, 4, 5, 6, 7, 8, 9], [6, 8])])
def impl_WeakestOf.B10 : List Nat := [0, 1, 0, 0, 12, 28, 63, 0, 0, 511, 1023]
theorem impl_WeakestOf.tab10 : rtab .any (opsOf Try.f18 10) = impl_WeakestOf.T10 := by kernel_rfl
theorem impl_WeakestOf.bits10 : waitsOk impl_WeakestOf.T10.2 impl_WeakestOf.B10 = true := by kernel_rfl
set_option maxHeartbeats 8000000 in
set_option maxRecDepth 100000 in
theorem impl_WeakestOf.calls (k : Nat) (A0 : Option Addr) (c0 : Nat) (l0 : List (S33)) (r1 : Int) (r2 : Int) (r3 : Int) (r4 : Int) (w : World) (hr0 : Kd.C k33 w A0 l0.length l0) (hc0 : l0.length ≤ c0) (h : impl_WeakestOf.f k l0 = some (r1, r2, r3, r4)) :
    Calls Try.prog 18 #[.slice A0 l0.length c0] w fun e w' => e = .returned (.tuple #[.int .i64 r1, .agg #[.int .i64 r2, .int .i64 r3], .int .i64 r4]) ∧ Below w.heap.size w w' := by
 have hu43 := Try.underlying43
 have hu33 := Try.underlying33
 have HR0 := Aside0.mk hr0
 have HC0 := Aside0.mk hc0
 clear hr0 hc0
 have HB := Aside0.mk (Below.refl w.heap.size w)
 have H : ((impl_yarnsCode.f l0 true).bind fun t242 => (if t242 = 0 then (if (l0.length : Int) = 0 then (some (0, 0, 0, 6)) else (impl_WeakestOf.l0 k l0 0 l0 (l0.length : Int) 0)) else (some (0, 0, 0, t242)))) = some (r1, r2, r3, r4) := h
 clear h
 replace H := Option.bind_eq_some_iff.mp H
 obtain ⟨t242, A20, H⟩ := H
 replace H : (if t242 = 0 then (if (l0.length : Int) = 0 then (some (0, 0, 0, 6)) else (impl_WeakestOf.l0 k l0 0 l0 (l0.length : Int) 0)) else (some (0, 0, 0, t242))) = some (r1, r2, r3, r4) := H
 have A2 := Aside0.mk A20
 clear A20
 by_cases c3 : t242 = 0
 rotate_left
 · rw [if_neg c3] at H
   have c3b0 : (t242 == 0) = false := beq_eq_false_iff_ne.mpr c3
   have c3b1 : (t242 != 0) = true := bne_iff_ne.mpr c3
   simp only [Option.some.injEq, Prod.mk.injEq] at H
   obtain ⟨rfl, rfl, rfl, rfl⟩ := H
   go_enter Try.func18, Try.ntmps18
   go_wp2_with (first | ((with_reducible refine gate_dst (N := 3) rfl ?_); refine box_event ?hg (N := 3) ?hd (cs := #[.int .i64 0, .int .i64 0]) (t := 43) ?hr ?_; (case hd => rfl); (case hg => rfl); (case hr => first | (go_simp; done) | (go_simp; rfl)); intro gb241 hg w65 hbox hb; refine up4 (below_step (zb HB.out) hb) (hbox) ((by rw [hg]; exact (below_size (zb HB.out)) : w.heap.size ≤ gb241)) ((by rw [hg]; exact (below_size (zb HB.out)) : w.heap.size ≤ gb241)) ?_; clear HB; intro HB BK241 GW241 GE241; clear hb hbox hg) | ((with_reducible refine gate_callee (f := 36) rfl ?_); refine goesL_ (some 12) rfl rfl Try.func36 (by kernel_rfl) rfl #[.slice A0 l0.length c0, .bool true] rfl zr ?_; (with_reducible refine (impl_yarnsCode.calls _ _ l0 true t242 _ ?side1 ?side2 A2.out).mono ?_); (case side1 => exact zk (Kd.C_below HR0.out HB.out)); (case side2 => exact HC0.out); rintro e w66 ⟨rfl, hb⟩; refine ⟨_, rfl, ?_⟩; refine up2 (blk_below (g := gb241) (o := .cells #[.int .i64 0, .int .i64 0] 43 (0, 0)) (zq BK241.out) hb) (below_step (zb1 HB.out GE241.out) hb) ?_; clear BK241 HB; intro BK241 HB; (try clear hb); (try clear hb2); (try clear hk); (try clear hi); have hcz67_0 : w66.cell? ⟨gb241, 0, none⟩ = some (.int .i64 0) := (blk_cell BK241.out 0).trans rfl; have hcz67_1 : w66.cell? ⟨gb241, 1, none⟩ = some (.int .i64 0) := (blk_cell BK241.out 1).trans rfl; have hfz67_0 := blk_frozen BK241.out 0; have hfz67_1 := blk_frozen BK241.out 1))
   refine bodyPost_ret (results_list (rs := [.tmp 2, .cell 3 43, .tmp 4]) rfl (by simp) (.tmp (.cell gb241 43 #[.int .i64 0, .int .i64 0] (0, 0) _ rfl (by (with_reducible repeat (first | refine blk_drewN ?_ _ | refine blk_drew ?_ | refine blk_alloc ?_ _)); refine blk_put (cs := #[.int .i64 0, .int .i64 0]) ?_ 1 _ rfl; (with_reducible repeat (first | refine blk_drewN ?_ _ | refine blk_drew ?_ | refine blk_alloc ?_ _)); refine blk_put (cs := #[.int .i64 0, .int .i64 0]) ?_ 0 _ rfl; (with_reducible repeat (first | refine blk_drewN ?_ _ | refine blk_drew ?_ | refine blk_alloc ?_ _)); exact BK241.out) Try.underlying43 rfl (by kernel_rfl) (.tmp .nil)))) rfl ?_
   exact ⟨zs, zb1 HB.out GE241.out⟩
 rw [if_pos c3] at H
 have c3b0 : (t242 == 0) = true := beq_iff_eq.mpr c3
 have c3b1 : (t242 != 0) = false := bne_eq_false_iff_eq.mpr c3
 clear c3
 by_cases c4 : (l0.length : Int) = 0
 · rw [if_pos c4] at H
   have c4b0 : ((l0.length : Int) == 0) = true := beq_iff_eq.mpr c4
   have c4b1 : ((l0.length : Int) != 0) = false := bne_eq_false_iff_eq.mpr c4
   clear c4
   simp only [Option.some.injEq, Prod.mk.injEq] at H
   obtain ⟨rfl, rfl, rfl, rfl⟩ := H
   go_enter Try.func18, Try.ntmps18
   go_wp2_with (first | ((with_reducible refine gate_dst (N := 3) rfl ?_); refine box_event ?hg (N := 3) ?hd (cs := #[.int .i64 0, .int .i64 0]) (t := 43) ?hr ?_; (case hd => rfl); (case hg => rfl); (case hr => first | (go_simp; done) | (go_simp; rfl)); intro gb241 hg w5 hbox hb; refine up4 (below_step (zb HB.out) hb) (hbox) ((by rw [hg]; exact (below_size (zb HB.out)) : w.heap.size ≤ gb241)) ((by rw [hg]; exact (below_size (zb HB.out)) : w.heap.size ≤ gb241)) ?_; clear HB; intro HB BK241 GW241 GE241; clear hb hbox hg) | ((with_reducible refine gate_callee (f := 36) rfl ?_); refine goesL_ (some 12) rfl rfl Try.func36 (by kernel_rfl) rfl #[.slice A0 l0.length c0, .bool true] rfl zr ?_; (with_reducible refine (impl_yarnsCode.calls _ _ l0 true t242 _ ?side1 ?side2 A2.out).mono ?_); (case side1 => exact zk (Kd.C_below HR0.out HB.out)); (case side2 => exact HC0.out); rintro e w6 ⟨rfl, hb⟩; refine ⟨_, rfl, ?_⟩; refine up2 (blk_below (g := gb241) (o := .cells #[.int .i64 0, .int .i64 0] 43 (0, 0)) (zq BK241.out) hb) (below_step (zb1 HB.out GE241.out) hb) ?_; clear BK241 HB; intro BK241 HB; (try clear hb); (try clear hb2); (try clear hk); (try clear hi); have hcz7_0 : w6.cell? ⟨gb241, 0, none⟩ = some (.int .i64 0) := (blk_cell BK241.out 0).trans rfl; have hcz7_1 : w6.cell? ⟨gb241, 1, none⟩ = some (.int .i64 0) := (blk_cell BK241.out 1).trans rfl; have hfz7_0 := blk_frozen BK241.out 0; have hfz7_1 := blk_frozen BK241.out 1))
   refine bodyPost_ret (results_list (rs := [.tmp 2, .cell 3 43, .tmp 4]) rfl (by simp) (.tmp (.cell gb241 43 #[.int .i64 0, .int .i64 0] (0, 0) _ rfl (by (with_reducible repeat (first | refine blk_drewN ?_ _ | refine blk_drew ?_ | refine blk_alloc ?_ _)); refine blk_put (cs := #[.int .i64 0, .int .i64 0]) ?_ 1 _ rfl; (with_reducible repeat (first | refine blk_drewN ?_ _ | refine blk_drew ?_ | refine blk_alloc ?_ _)); refine blk_put (cs := #[.int .i64 0, .int .i64 0]) ?_ 0 _ rfl; (with_reducible repeat (first | refine blk_drewN ?_ _ | refine blk_drew ?_ | refine blk_alloc ?_ _)); exact BK241.out) Try.underlying43 rfl (by kernel_rfl) (.tmp .nil)))) rfl ?_
   exact ⟨zs, zb1 HB.out GE241.out⟩
 rw [if_neg c4] at H
 have c4b0 : ((l0.length : Int) == 0) = false := beq_eq_false_iff_ne.mpr c4
 have c4b1 : ((l0.length : Int) != 0) = true := bne_iff_ne.mpr c4
 have c4b2 : ¬ (l0 = []) := fun h_ => c4 (by rw [h_]; rfl)
 have H' := Aside0.mk H
 clear H
 go_enter Try.func18, Try.ntmps18
 go_wp2_with (first | ((with_reducible refine gate_dst (N := 3) rfl ?_); refine box_event ?hg (N := 3) ?hd (cs := #[.int .i64 0, .int .i64 0]) (t := 43) ?hr ?_; (case hd => rfl); (case hg => rfl); (case hr => first | (go_simp; done) | (go_simp; rfl)); intro gb241 hg w8 hbox hb; refine up4 (below_step (zb HB.out) hb) (hbox) ((by rw [hg]; exact (below_size (zb HB.out)) : w.heap.size ≤ gb241)) ((by rw [hg]; exact (below_size (zb HB.out)) : w.heap.size ≤ gb241)) ?_; clear HB; intro HB BK241 GW241 GE241; clear hb hbox hg) | ((with_reducible refine gate_callee (f := 36) rfl ?_); refine goesL_ (some 12) rfl rfl Try.func36 (by kernel_rfl) rfl #[.slice A0 l0.length c0, .bool true] rfl zr ?_; (with_reducible refine (impl_yarnsCode.calls _ _ l0 true t242 _ ?side1 ?side2 A2.out).mono ?_); (case side1 => exact zk (Kd.C_below HR0.out HB.out)); (case side2 => exact HC0.out); rintro e w9 ⟨rfl, hb⟩; refine ⟨_, rfl, ?_⟩; refine up2 (blk_below (g := gb241) (o := .cells #[.int .i64 0, .int .i64 0] 43 (0, 0)) (zq BK241.out) hb) (below_step (zb1 HB.out GE241.out) hb) ?_; clear BK241 HB; intro BK241 HB; (try clear hb); (try clear hb2); (try clear hk); (try clear hi)))
 go_loopg [6, 23] k (fun kq v6 v23 w' => ∃ (x6_1 : Int) (x23_1 : Int), v6 = .int .i64 x6_1 ∧ v23 = .int .i64 x23_1 ∧ Aside0 (impl_WeakestOf.l0 kq l0 x6_1 l0 (l0.length : Int) x23_1 = some (r1, r2, r3, r4)) ∧ Aside0 (kq ≤ k) ∧ Aside0 (w'.heap[gb241]? = some (.cells #[.int .i64 0, .int .i64 0] 43 (0, 0))) ∧ Aside0 (Below w.heap.size w w'))
 case atStart => exact ⟨(0), (0), zx, zx, H', ⟨Nat.le_refl _⟩, ⟨by (with_reducible repeat (first | refine blk_drewN ?_ _ | refine blk_drew ?_ | refine blk_alloc ?_ _)); exact BK241.out⟩, ⟨zb1 HB.out GE241.out⟩⟩
 case round =>
 clear H'
 try clear c3b0
 try clear c3b1
 try clear c4
 try clear c4b0
 try clear c4b1
 try clear c4b2
 obtain ⟨x6_1, x23_1, rfl, rfl, HA, HK1, BK241, HB⟩ := hrel
 cases gk with
 | zero => exact absurd HA.out (by simp [impl_WeakestOf.l0])
 | succ k1 =>
  have H := HA.out
  clear HA
  simp only [impl_WeakestOf.l0] at H
  by_cases c10 : x23_1 < (l0.length : Int)
  rotate_left
  · rw [if_neg c10] at H
    have c10b0 : decide (x23_1 < (l0.length : Int)) = false := decide_eq_false c10
    clear c10
    by_cases c60 : 0 ≤ x6_1
    rotate_left
    · rw [if_neg c60] at H
      exact absurd H (by simp)
    rw [if_pos c60] at H
    have c60b0 : decide (0 ≤ x6_1) = true := decide_eq_true c60
    clear c60
    by_cases c61 : x6_1 < (l0.length : Int)
    rotate_left
    · rw [if_neg c61] at H
      exact absurd H (by simp)
    rw [if_pos c61] at H
    have c61b0 : decide (x6_1 < (l0.length : Int)) = true := decide_eq_true c61
    clear c61
    replace H := Option.bind_eq_some_iff.mp H
    obtain ⟨⟨t244, t245⟩, A620, H⟩ := H
    replace H : (some (x6_1, t244, t245, 0)) = some (r1, r2, r3, r4) := H
    have A62 := Aside0.mk A620
    clear A620
    simp only [Option.some.injEq, Prod.mk.injEq] at H
    obtain ⟨rfl, rfl, rfl, rfl⟩ := H
    have p243 : 0 ≤ (x6_1 : Int) := zd
    have q243 : x6_1 < (l0.length : Int) := zd
    obtain ⟨ad243, e243, hx243_0, hx243_1, hx243_2⟩ := at_T33 HR0.out x6_1 p243 q243
    cases e243
    replace hx243_0 := zc HB.out hx243_0
    replace hx243_1 := zc HB.out hx243_1
    replace hx243_2 := zc HB.out hx243_2
    replace p243 := eq_true p243
    replace q243 := eq_true q243
    go_wp2_with (first | ((with_reducible refine gate_callee (f := 43) rfl ?_); refine goesL_ (some 53) rfl rfl Try.func43 (by kernel_rfl) rfl #[.agg #[.int .i16 ((rd_T33 l0 x6_1).f0), .int .i16 ((rd_T33 l0 x6_1).f1), .int .i16 ((rd_T33 l0 x6_1).f2)]] rfl zr ?_; (with_reducible refine (impl_Yarn_count.calls k1 ((rd_T33 l0 x6_1).f0) ((rd_T33 l0 x6_1).f1) ((rd_T33 l0 x6_1).f2) t244 t245 _ A62.out).mono ?_); rintro e w63 ⟨rfl, hb⟩; refine ⟨_, rfl, ?_⟩; refine up2 (blk_below (g := gb241) (o := .cells #[.int .i64 0, .int .i64 0] 43 (0, 0)) (zq BK241.out) hb) (below_step (zb1 HB.out GE241.out) hb) ?_; clear BK241 HB; intro BK241 HB; (try clear hb); (try clear hb2); (try clear hk); (try clear hi); have hcz64_0 : w63.cell? ⟨gb241, 0, none⟩ = some (.int .i64 0) := (blk_cell BK241.out 0).trans rfl; have hcz64_1 : w63.cell? ⟨gb241, 1, none⟩ = some (.int .i64 0) := (blk_cell BK241.out 1).trans rfl; have hfz64_0 := blk_frozen BK241.out 0; have hfz64_1 := blk_frozen BK241.out 1))
    refine bodyPost_ret (results_list (rs := [.tmp 2, .cell 3 43, .tmp 4]) rfl (by simp) (.tmp (.cell gb241 43 #[.int .i64 t244, .int .i64 t245] (0, 0) _ rfl (by (with_reducible repeat (first | refine blk_drewN ?_ _ | refine blk_drew ?_ | refine blk_alloc ?_ _)); refine blk_put (cs := #[.int .i64 t244, .int .i64 0]) ?_ 1 _ rfl; (with_reducible repeat (first | refine blk_drewN ?_ _ | refine blk_drew ?_ | refine blk_alloc ?_ _)); refine blk_put (cs := #[.int .i64 0, .int .i64 0]) ?_ 0 _ rfl; (with_reducible repeat (first | refine blk_drewN ?_ _ | refine blk_drew ?_ | refine blk_alloc ?_ _)); exact BK241.out) Try.underlying43 rfl (by kernel_rfl) (.tmp .nil)))) rfl ?_
    exact ⟨zs, zb1 HB.out GE241.out⟩
  rw [if_pos c10] at H
  have c10b0 : decide (x23_1 < (l0.length : Int)) = true := decide_eq_true c10
  clear c10
  by_cases c11 : 0 ≤ x23_1
  rotate_left
  · rw [if_neg c11] at H
    exact absurd H (by simp)
  rw [if_pos c11] at H
  have c11b0 : decide (0 ≤ x23_1) = true := decide_eq_true c11
  clear c11
  by_cases c12 : x23_1 < (l0.length : Int)
  rotate_left
  · rw [if_neg c12] at H
    exact absurd H (by simp)
  rw [if_pos c12] at H
  have c12b0 : decide (x23_1 < (l0.length : Int)) = true := decide_eq_true c12
  clear c12
  replace H := Option.bind_eq_some_iff.mp H
  obtain ⟨⟨t248, t249⟩, A130, H⟩ := H
  replace H : (if 0 ≤ x6_1 then (if x6_1 < (l0.length : Int) then ((impl_Yarn_count.f k1 ((rd_T33 l0 x6_1).f0) ((rd_T33 l0 x6_1).f1) ((rd_T33 l0 x6_1).f2)).bind fun bt251 => (if (wrap64 (t248 * bt251.2)) > (wrap64 (bt251.1 * t249)) then (impl_WeakestOf.l0 k1 l0 x23_1 l0 (l0.length : Int) (wrap64 (x23_1 + 1))) else (impl_WeakestOf.l0 k1 l0 x6_1 l0 (l0.length : Int) (wrap64 (x23_1 + 1))))) else (none)) else (none)) = some (r1, r2, r3, r4) := H
  have A13 := Aside0.mk A130
  clear A130
  by_cases c14 : 0 ≤ x6_1
  rotate_left
  · rw [if_neg c14] at H
    exact absurd H (by simp)
  rw [if_pos c14] at H
  have c14b0 : decide (0 ≤ x6_1) = true := decide_eq_true c14
  clear c14
  by_cases c15 : x6_1 < (l0.length : Int)
  rotate_left
  · rw [if_neg c15] at H
    exact absurd H (by simp)
  rw [if_pos c15] at H
  have c15b0 : decide (x6_1 < (l0.length : Int)) = true := decide_eq_true c15
  clear c15
  replace H := Option.bind_eq_some_iff.mp H
  obtain ⟨⟨t251, t252⟩, A160, H⟩ := H
  replace H : (if (wrap64 (t248 * t252)) > (wrap64 (t251 * t249)) then (impl_WeakestOf.l0 k1 l0 x23_1 l0 (l0.length : Int) (wrap64 (x23_1 + 1))) else (impl_WeakestOf.l0 k1 l0 x6_1 l0 (l0.length : Int) (wrap64 (x23_1 + 1)))) = some (r1, r2, r3, r4) := H
  have A16 := Aside0.mk A160
  clear A160
  have H' := Aside0.mk H
  clear H
  have p246 : 0 ≤ (x23_1 : Int) := zd
  have q246 : x23_1 < (l0.length : Int) := zd
  obtain ⟨ad246, e246, hx246_0, hx246_1, hx246_2⟩ := at_T33 HR0.out x23_1 p246 q246
  cases e246
  replace hx246_0 := zc HB.out hx246_0
  replace hx246_1 := zc HB.out hx246_1
  replace hx246_2 := zc HB.out hx246_2
  replace p246 := eq_true p246
  replace q246 := eq_true q246
  try go_wp2_with (first | ((with_reducible refine gate_dst (N := 8) rfl ?_); refine box_event ?hg (N := 8) ?hd (cs := #[.int .i16 0, .int .i16 0, .int .i16 0]) (t := 33) ?hr ?_; (case hd => rfl); (case hg => rfl); (case hr => first | (go_simp; done) | (go_simp; rfl)); intro gb247 hg w18 hbox hb; refine up7 (blk_below (g := gb241) (o := .cells #[.int .i64 0, .int .i64 0] 43 (0, 0)) (zq BK241.out) hb) (below_step (zb1 HB.out GE241.out) hb) (hbox) ((by rw [hg]; exact (below_size (zb1 HB.out GE241.out)) : w.heap.size ≤ gb247)) ((by rw [hg]; exact (below_size (zb1 HB.out GE241.out)) : w.heap.size ≤ gb247)) ((by rw [hg]; exact Nat.ne_of_lt (blk_lt (g := gb241) (o := .cells #[.int .i64 0, .int .i64 0] 43 (0, 0)) (zq BK241.out)) : gb241 ≠ gb247)) ((by rw [hg]; exact Nat.ne_of_gt (blk_lt (g := gb241) (o := .cells #[.int .i64 0, .int .i64 0] 43 (0, 0)) (zq BK241.out)) : gb247 ≠ gb241)) ?_; clear BK241 HB; intro BK241 HB BK247 GW247 GE247 NB241_247 NB247_241; clear hb hbox hg; have hnb19 := NB247_241.out; have hnc19 := NB241_247.out; have hcz20_0 : w18.cell? ⟨gb247, 0, none⟩ = some (.int .i16 0) := (blk_cell BK247.out 0).trans rfl; have hcz20_1 : w18.cell? ⟨gb247, 1, none⟩ = some (.int .i16 0) := (blk_cell BK247.out 1).trans rfl; have hcz20_2 : w18.cell? ⟨gb247, 2, none⟩ = some (.int .i16 0) := (blk_cell BK247.out 2).trans rfl; have hfz20_0 := blk_frozen BK247.out 0; have hfz20_1 := blk_frozen BK247.out 1; have hfz20_2 := blk_frozen BK247.out 2))
  have n0_ : Aside0 ((((w18.setCell ⟨gb247, 0, none⟩ (.int .i16 ((rd_T33 l0 x23_1).f0))).setCell ⟨gb247, 1, none⟩ (.int .i16 ((rd_T33 l0 x23_1).f1))).setCell ⟨gb247, 2, none⟩ (.int .i16 ((rd_T33 l0 x23_1).f2))).heap[gb241]? = some (.cells #[.int .i64 0, .int .i64 0] 43 (0, 0))) := ⟨by (with_reducible repeat (first | refine blk_drewN ?_ _ | refine blk_drew ?_ | refine blk_alloc ?_ _)); refine blk_far ?_ NB241_247.out _; (with_reducible repeat (first | refine blk_drewN ?_ _ | refine blk_drew ?_ | refine blk_alloc ?_ _)); refine blk_far ?_ NB241_247.out _; (with_reducible repeat (first | refine blk_drewN ?_ _ | refine blk_drew ?_ | refine blk_alloc ?_ _)); refine blk_far ?_ NB241_247.out _; (with_reducible repeat (first | refine blk_drewN ?_ _ | refine blk_drew ?_ | refine blk_alloc ?_ _)); exact BK241.out⟩
  have n1_ : Aside0 ((((w18.setCell ⟨gb247, 0, none⟩ (.int .i16 ((rd_T33 l0 x23_1).f0))).setCell ⟨gb247, 1, none⟩ (.int .i16 ((rd_T33 l0 x23_1).f1))).setCell ⟨gb247, 2, none⟩ (.int .i16 ((rd_T33 l0 x23_1).f2))).heap[gb247]? = some (.cells #[.int .i16 ((rd_T33 l0 x23_1).f0), .int .i16 ((rd_T33 l0 x23_1).f1), .int .i16 ((rd_T33 l0 x23_1).f2)] 33 (0, 0))) := ⟨by (with_reducible repeat (first | refine blk_drewN ?_ _ | refine blk_drew ?_ | refine blk_alloc ?_ _)); refine blk_put (cs := #[.int .i16 ((rd_T33 l0 x23_1).f0), .int .i16 ((rd_T33 l0 x23_1).f1), .int .i16 0]) ?_ 2 _ rfl; (with_reducible repeat (first | refine blk_drewN ?_ _ | refine blk_drew ?_ | refine blk_alloc ?_ _)); refine blk_put (cs := #[.int .i16 ((rd_T33 l0 x23_1).f0), .int .i16 0, .int .i16 0]) ?_ 1 _ rfl; (with_reducible repeat (first | refine blk_drewN ?_ _ | refine blk_drew ?_ | refine blk_alloc ?_ _)); refine blk_put (cs := #[.int .i16 0, .int .i16 0, .int .i16 0]) ?_ 0 _ rfl; (with_reducible repeat (first | refine blk_drewN ?_ _ | refine blk_drew ?_ | refine blk_alloc ?_ _)); exact BK247.out⟩
  have n2_ : Aside0 (Below w.heap.size w (((w18.setCell ⟨gb247, 0, none⟩ (.int .i16 ((rd_T33 l0 x23_1).f0))).setCell ⟨gb247, 1, none⟩ (.int .i16 ((rd_T33 l0 x23_1).f1))).setCell ⟨gb247, 2, none⟩ (.int .i16 ((rd_T33 l0 x23_1).f2)))) := ⟨zb2 HB.out GE241.out GE247.out⟩
  (try clear BK241)
  (try clear BK247)
  (try clear HB)
  generalize (((w18.setCell ⟨gb247, 0, none⟩ (.int .i16 ((rd_T33 l0 x23_1).f0))).setCell ⟨gb247, 1, none⟩ (.int .i16 ((rd_T33 l0 x23_1).f1))).setCell ⟨gb247, 2, none⟩ (.int .i16 ((rd_T33 l0 x23_1).f2))) = w21 at n0_ n1_ n2_ ⊢
  have BK241 := n0_
  have BK247 := n1_
  have HB := n2_
  clear n0_ n1_ n2_
  refine up3 (blk_drew BK241.out) (blk_drew BK247.out) (below_drew1 HB.out) ?_
  clear BK241 BK247 HB
  intro BK241 BK247 HB
  have p250 : 0 ≤ (x6_1 : Int) := zd
  have q250 : x6_1 < (l0.length : Int) := zd
  obtain ⟨ad250, e250, hx250_0, hx250_1, hx250_2⟩ := at_T33 HR0.out x6_1 p250 q250
  have hw250_2 := hx250_2
  have hw250_1 := hx250_1
  have hw250_0 := hx250_0
  obtain rfl : ad246 = ad250 := (by injection e250)
  replace hx250_0 := zc HB.out hx250_0
  replace hx250_1 := zc HB.out hx250_1
  replace hx250_2 := zc HB.out hx250_2
  replace p250 := eq_true p250
  replace q250 := eq_true q250
  refine start_ (n := 11) (S := fun w' => w'.cell? ⟨gb247, 0, none⟩ = some (.int .i16 ((rd_T33 l0 x23_1).f0)) ∧ w'.cell? ⟨gb247, 1, none⟩ = some (.int .i16 ((rd_T33 l0 x23_1).f1)) ∧ w'.cell? ⟨gb247, 2, none⟩ = some (.int .i16 ((rd_T33 l0 x23_1).f2)) ∧ w'.cell? (ad246.add ((x6_1).toNat * 3)) = some (.int .i16 ((rd_T33 l0 x6_1).f0)) ∧ w'.cell? ⟨(ad246.add ((x6_1).toNat * 3)).block, (ad246.add ((x6_1).toNat * 3)).off + 1, none⟩ = some (.int .i16 ((rd_T33 l0 x6_1).f1)) ∧ w'.cell? ⟨(ad246.add ((x6_1).toNat * 3)).block, (ad246.add ((x6_1).toNat * 3)).off + 2, none⟩ = some (.int .i16 ((rd_T33 l0 x6_1).f2))) (ds := []) #[false, false, false, false, false, false, false, false, false, false, false] (by kernel_rfl) rfl rfl ⟨(blk_cell BK247.out 0).trans rfl, (blk_cell BK247.out 1).trans rfl, (blk_cell BK247.out 2).trans rfl, (zc HB.out hw250_0), (zc HB.out hw250_1), (zc HB.out hw250_2)⟩ (fun hHeld => ?_); refine with_tabW impl_WeakestOf.tab10 impl_WeakestOf.bits10 (fun HT_ HW_ => ?_)
  generalize w21.drew = w22 at BK241 BK247 HB hx250_0 hx250_1 hx250_2 hHeld ⊢
  refine pure_ (i := 2) (N := some 30) #[false, false, true, false, false, false, false, false, false, false, false] rfl rfl (any_of HT_.out (by kernel_rfl)) (fun _ _ _ h => h) (Or.inl ⟨by rfl, zy⟩) za ?_
  refine pure_ (i := 3) (N := some 31) #[false, false, true, true, false, false, false, false, false, false, false] rfl rfl (any_of HT_.out (by kernel_rfl)) (fun _ _ _ h => h) (Or.inl ⟨by rfl, zy⟩) za ?_
  refine pure_ (i := 4) (N := some 32) #[false, false, true, true, true, false, false, false, false, false, false] rfl rfl (any_of HT_.out (by kernel_rfl)) (fun _ _ _ h => h) (Or.inl ⟨by rfl, zy⟩) za ?_
  refine take_ (i := 0) (N := some 28) #[true, false, true, true, true, false, false, false, false, false, false] rfl rfl (take_ofW HT_.out HW_.out (by kernel_rfl)) (fun _ _ _ h => h) (Or.inl ⟨by rfl, zt6⟩) hHeld za ?_
  refine take_ (i := 5) (N := some 33) #[true, false, true, true, true, true, false, false, false, false, false] rfl rfl (take_ofW HT_.out HW_.out (by kernel_rfl)) (fun _ _ _ h => h) (Or.inl ⟨by rfl, zt6⟩) hHeld za ?_
  refine join_ (σ := Nat × Nat) 2 #[true, true, true, true, true, true, true, true, true, false, false] (fun s_ => [(29, .agg #[.int .i64 t248, .int .i64 t249]), (34, .agg #[.int .i64 t251, .int .i64 t252]), (9, .pointer (some ⟨s_.1, 0, none⟩)), (10, .pointer (some ⟨s_.2, 0, none⟩))]) (fun s_ w' => (w'.cell? ⟨gb247, 0, none⟩ = some (.int .i16 ((rd_T33 l0 x23_1).f0)) ∧ w'.cell? ⟨gb247, 1, none⟩ = some (.int .i16 ((rd_T33 l0 x23_1).f1)) ∧ w'.cell? ⟨gb247, 2, none⟩ = some (.int .i16 ((rd_T33 l0 x23_1).f2)) ∧ w'.cell? (ad246.add ((x6_1).toNat * 3)) = some (.int .i16 ((rd_T33 l0 x6_1).f0)) ∧ w'.cell? ⟨(ad246.add ((x6_1).toNat * 3)).block, (ad246.add ((x6_1).toNat * 3)).off + 1, none⟩ = some (.int .i16 ((rd_T33 l0 x6_1).f1)) ∧ w'.cell? ⟨(ad246.add ((x6_1).toNat * 3)).block, (ad246.add ((x6_1).toNat * 3)).off + 2, none⟩ = some (.int .i16 ((rd_T33 l0 x6_1).f2))) ∧ (w'.heap[gb241]? = some (.cells #[.int .i64 0, .int .i64 0] 43 (0, 0))) ∧ (w'.heap[gb247]? = some (.cells #[.int .i16 ((rd_T33 l0 x23_1).f0), .int .i16 ((rd_T33 l0 x23_1).f1), .int .i16 ((rd_T33 l0 x23_1).f2)] 33 (0, 0))) ∧ (w'.heap[s_.1]? = some (.cells #[.int .i64 0, .int .i64 0] 43 (0, 0))) ∧ (w'.heap[s_.2]? = some (.cells #[.int .i64 0, .int .i64 0] 43 (0, 0))) ∧ (w.heap.size ≤ s_.1) ∧ (w.heap.size ≤ s_.1) ∧ (gb241 ≠ s_.1) ∧ (s_.1 ≠ gb241) ∧ (gb247 ≠ s_.1) ∧ (s_.1 ≠ gb247) ∧ (s_.2 ≠ s_.1) ∧ (s_.1 ≠ s_.2) ∧ (w.heap.size ≤ s_.2) ∧ (w.heap.size ≤ s_.2) ∧ (gb241 ≠ s_.2) ∧ (s_.2 ≠ gb241) ∧ (gb247 ≠ s_.2) ∧ (s_.2 ≠ gb247) ∧ (Below w.heap.size w w')) ?_ ?_
  rotate_left
  · intro hJ1_6_7_8
    refine join_ (σ := Nat) 3 #[true, true, true, true, true, true, true, true, false, false, false] (fun s_ => [(29, .agg #[.int .i64 t248, .int .i64 t249]), (34, .agg #[.int .i64 t251, .int .i64 t252]), (9, .pointer (some ⟨s_, 0, none⟩))]) (fun s_ w' => (w'.cell? ⟨gb247, 0, none⟩ = some (.int .i16 ((rd_T33 l0 x23_1).f0)) ∧ w'.cell? ⟨gb247, 1, none⟩ = some (.int .i16 ((rd_T33 l0 x23_1).f1)) ∧ w'.cell? ⟨gb247, 2, none⟩ = some (.int .i16 ((rd_T33 l0 x23_1).f2)) ∧ w'.cell? (ad246.add ((x6_1).toNat * 3)) = some (.int .i16 ((rd_T33 l0 x6_1).f0)) ∧ w'.cell? ⟨(ad246.add ((x6_1).toNat * 3)).block, (ad246.add ((x6_1).toNat * 3)).off + 1, none⟩ = some (.int .i16 ((rd_T33 l0 x6_1).f1)) ∧ w'.cell? ⟨(ad246.add ((x6_1).toNat * 3)).block, (ad246.add ((x6_1).toNat * 3)).off + 2, none⟩ = some (.int .i16 ((rd_T33 l0 x6_1).f2))) ∧ (w'.heap[gb241]? = some (.cells #[.int .i64 0, .int .i64 0] 43 (0, 0))) ∧ (w'.heap[gb247]? = some (.cells #[.int .i16 ((rd_T33 l0 x23_1).f0), .int .i16 ((rd_T33 l0 x23_1).f1), .int .i16 ((rd_T33 l0 x23_1).f2)] 33 (0, 0))) ∧ (w'.heap[s_]? = some (.cells #[.int .i64 0, .int .i64 0] 43 (0, 0))) ∧ (w.heap.size ≤ s_) ∧ (w.heap.size ≤ s_) ∧ (gb241 ≠ s_) ∧ (s_ ≠ gb241) ∧ (gb247 ≠ s_) ∧ (s_ ≠ gb247) ∧ (Below w.heap.size w w')) ?_ ?_
    rotate_left
    · intro hJ1_6_7
      refine join_ (σ := Nat) 3 #[true, true, true, true, true, true, true, false, true, false, false] (fun s_ => [(29, .agg #[.int .i64 t248, .int .i64 t249]), (34, .agg #[.int .i64 t251, .int .i64 t252]), (10, .pointer (some ⟨s_, 0, none⟩))]) (fun s_ w' => (w'.cell? ⟨gb247, 0, none⟩ = some (.int .i16 ((rd_T33 l0 x23_1).f0)) ∧ w'.cell? ⟨gb247, 1, none⟩ = some (.int .i16 ((rd_T33 l0 x23_1).f1)) ∧ w'.cell? ⟨gb247, 2, none⟩ = some (.int .i16 ((rd_T33 l0 x23_1).f2)) ∧ w'.cell? (ad246.add ((x6_1).toNat * 3)) = some (.int .i16 ((rd_T33 l0 x6_1).f0)) ∧ w'.cell? ⟨(ad246.add ((x6_1).toNat * 3)).block, (ad246.add ((x6_1).toNat * 3)).off + 1, none⟩ = some (.int .i16 ((rd_T33 l0 x6_1).f1)) ∧ w'.cell? ⟨(ad246.add ((x6_1).toNat * 3)).block, (ad246.add ((x6_1).toNat * 3)).off + 2, none⟩ = some (.int .i16 ((rd_T33 l0 x6_1).f2))) ∧ (w'.heap[gb241]? = some (.cells #[.int .i64 0, .int .i64 0] 43 (0, 0))) ∧ (w'.heap[gb247]? = some (.cells #[.int .i16 ((rd_T33 l0 x23_1).f0), .int .i16 ((rd_T33 l0 x23_1).f1), .int .i16 ((rd_T33 l0 x23_1).f2)] 33 (0, 0))) ∧ (w'.heap[s_]? = some (.cells #[.int .i64 0, .int .i64 0] 43 (0, 0))) ∧ (w.heap.size ≤ s_) ∧ (w.heap.size ≤ s_) ∧ (gb241 ≠ s_) ∧ (s_ ≠ gb241) ∧ (gb247 ≠ s_) ∧ (s_ ≠ gb247) ∧ (Below w.heap.size w w')) ?_ ?_
      rotate_left
      · intro hJ1_6_8
        refine join_ (σ := Nat × Nat) 3 #[true, true, true, true, true, true, false, true, true, false, false] (fun s_ => [(29, .agg #[.int .i64 t248, .int .i64 t249]), (9, .pointer (some ⟨s_.1, 0, none⟩)), (10, .pointer (some ⟨s_.2, 0, none⟩))]) (fun s_ w' => (w'.cell? ⟨gb247, 0, none⟩ = some (.int .i16 ((rd_T33 l0 x23_1).f0)) ∧ w'.cell? ⟨gb247, 1, none⟩ = some (.int .i16 ((rd_T33 l0 x23_1).f1)) ∧ w'.cell? ⟨gb247, 2, none⟩ = some (.int .i16 ((rd_T33 l0 x23_1).f2)) ∧ w'.cell? (ad246.add ((x6_1).toNat * 3)) = some (.int .i16 ((rd_T33 l0 x6_1).f0)) ∧ w'.cell? ⟨(ad246.add ((x6_1).toNat * 3)).block, (ad246.add ((x6_1).toNat * 3)).off + 1, none⟩ = some (.int .i16 ((rd_T33 l0 x6_1).f1)) ∧ w'.cell? ⟨(ad246.add ((x6_1).toNat * 3)).block, (ad246.add ((x6_1).toNat * 3)).off + 2, none⟩ = some (.int .i16 ((rd_T33 l0 x6_1).f2))) ∧ (w'.heap[gb241]? = some (.cells #[.int .i64 0, .int .i64 0] 43 (0, 0))) ∧ (w'.heap[gb247]? = some (.cells #[.int .i16 ((rd_T33 l0 x23_1).f0), .int .i16 ((rd_T33 l0 x23_1).f1), .int .i16 ((rd_T33 l0 x23_1).f2)] 33 (0, 0))) ∧ (w'.heap[s_.1]? = some (.cells #[.int .i64 0, .int .i64 0] 43 (0, 0))) ∧ (w'.heap[s_.2]? = some (.cells #[.int .i64 0, .int .i64 0] 43 (0, 0))) ∧ (w.heap.size ≤ s_.1) ∧ (w.heap.size ≤ s_.1) ∧ (gb241 ≠ s_.1) ∧ (s_.1 ≠ gb241) ∧ (gb247 ≠ s_.1) ∧ (s_.1 ≠ gb247) ∧ (s_.2 ≠ s_.1) ∧ (s_.1 ≠ s_.2) ∧ (w.heap.size ≤ s_.2) ∧ (w.heap.size ≤ s_.2) ∧ (gb241 ≠ s_.2) ∧ (s_.2 ≠ gb241) ∧ (gb247 ≠ s_.2) ∧ (s_.2 ≠ gb247) ∧ (Below w.heap.size w w')) ?_ ?_
        rotate_left
        · intro hJ1_7_8
          refine join_ (σ := Unit) 4 #[true, true, true, true, true, true, true, false, false, false, false] (fun s_ => [(29, .agg #[.int .i64 t248, .int .i64 t249]), (34, .agg #[.int .i64 t251, .int .i64 t252])]) (fun s_ w' => (w'.cell? ⟨gb247, 0, none⟩ = some (.int .i16 ((rd_T33 l0 x23_1).f0)) ∧ w'.cell? ⟨gb247, 1, none⟩ = some (.int .i16 ((rd_T33 l0 x23_1).f1)) ∧ w'.cell? ⟨gb247, 2, none⟩ = some (.int .i16 ((rd_T33 l0 x23_1).f2)) ∧ w'.cell? (ad246.add ((x6_1).toNat * 3)) = some (.int .i16 ((rd_T33 l0 x6_1).f0)) ∧ w'.cell? ⟨(ad246.add ((x6_1).toNat * 3)).block, (ad246.add ((x6_1).toNat * 3)).off + 1, none⟩ = some (.int .i16 ((rd_T33 l0 x6_1).f1)) ∧ w'.cell? ⟨(ad246.add ((x6_1).toNat * 3)).block, (ad246.add ((x6_1).toNat * 3)).off + 2, none⟩ = some (.int .i16 ((rd_T33 l0 x6_1).f2))) ∧ (w'.heap[gb241]? = some (.cells #[.int .i64 0, .int .i64 0] 43 (0, 0))) ∧ (w'.heap[gb247]? = some (.cells #[.int .i16 ((rd_T33 l0 x23_1).f0), .int .i16 ((rd_T33 l0 x23_1).f1), .int .i16 ((rd_T33 l0 x23_1).f2)] 33 (0, 0))) ∧ (Below w.heap.size w w')) ?_ ?_
          rotate_left
          · intro hJ1_6
            refine join_ (σ := Nat) 4 #[true, true, true, true, true, true, false, true, false, false, false] (fun s_ => [(29, .agg #[.int .i64 t248, .int .i64 t249]), (9, .pointer (some ⟨s_, 0, none⟩))]) (fun s_ w' => (w'.cell? ⟨gb247, 0, none⟩ = some (.int .i16 ((rd_T33 l0 x23_1).f0)) ∧ w'.cell? ⟨gb247, 1, none⟩ = some (.int .i16 ((rd_T33 l0 x23_1).f1)) ∧ w'.cell? ⟨gb247, 2, none⟩ = some (.int .i16 ((rd_T33 l0 x23_1).f2)) ∧ w'.cell? (ad246.add ((x6_1).toNat * 3)) = some (.int .i16 ((rd_T33 l0 x6_1).f0)) ∧ w'.cell? ⟨(ad246.add ((x6_1).toNat * 3)).block, (ad246.add ((x6_1).toNat * 3)).off + 1, none⟩ = some (.int .i16 ((rd_T33 l0 x6_1).f1)) ∧ w'.cell? ⟨(ad246.add ((x6_1).toNat * 3)).block, (ad246.add ((x6_1).toNat * 3)).off + 2, none⟩ = some (.int .i16 ((rd_T33 l0 x6_1).f2))) ∧ (w'.heap[gb241]? = some (.cells #[.int .i64 0, .int .i64 0] 43 (0, 0))) ∧ (w'.heap[gb247]? = some (.cells #[.int .i16 ((rd_T33 l0 x23_1).f0), .int .i16 ((rd_T33 l0 x23_1).f1), .int .i16 ((rd_T33 l0 x23_1).f2)] 33 (0, 0))) ∧ (w'.heap[s_]? = some (.cells #[.int .i64 0, .int .i64 0] 43 (0, 0))) ∧ (w.heap.size ≤ s_) ∧ (w.heap.size ≤ s_) ∧ (gb241 ≠ s_) ∧ (s_ ≠ gb241) ∧ (gb247 ≠ s_) ∧ (s_ ≠ gb247) ∧ (Below w.heap.size w w')) ?_ ?_
            rotate_left
            · intro hJ1_7
              refine join_ (σ := Nat) 4 #[true, true, true, true, true, true, false, false, true, false, false] (fun s_ => [(29, .agg #[.int .i64 t248, .int .i64 t249]), (10, .pointer (some ⟨s_, 0, none⟩))]) (fun s_ w' => (w'.cell? ⟨gb247, 0, none⟩ = some (.int .i16 ((rd_T33 l0 x23_1).f0)) ∧ w'.cell? ⟨gb247, 1, none⟩ = some (.int .i16 ((rd_T33 l0 x23_1).f1)) ∧ w'.cell? ⟨gb247, 2, none⟩ = some (.int .i16 ((rd_T33 l0 x23_1).f2)) ∧ w'.cell? (ad246.add ((x6_1).toNat * 3)) = some (.int .i16 ((rd_T33 l0 x6_1).f0)) ∧ w'.cell? ⟨(ad246.add ((x6_1).toNat * 3)).block, (ad246.add ((x6_1).toNat * 3)).off + 1, none⟩ = some (.int .i16 ((rd_T33 l0 x6_1).f1)) ∧ w'.cell? ⟨(ad246.add ((x6_1).toNat * 3)).block, (ad246.add ((x6_1).toNat * 3)).off + 2, none⟩ = some (.int .i16 ((rd_T33 l0 x6_1).f2))) ∧ (w'.heap[gb241]? = some (.cells #[.int .i64 0, .int .i64 0] 43 (0, 0))) ∧ (w'.heap[gb247]? = some (.cells #[.int .i16 ((rd_T33 l0 x23_1).f0), .int .i16 ((rd_T33 l0 x23_1).f1), .int .i16 ((rd_T33 l0 x23_1).f2)] 33 (0, 0))) ∧ (w'.heap[s_]? = some (.cells #[.int .i64 0, .int .i64 0] 43 (0, 0))) ∧ (w.heap.size ≤ s_) ∧ (w.heap.size ≤ s_) ∧ (gb241 ≠ s_) ∧ (s_ ≠ gb241) ∧ (gb247 ≠ s_) ∧ (s_ ≠ gb247) ∧ (Below w.heap.size w w')) ?_ ?_
              rotate_left
              · intro hJ1_8
                refine join_ (σ := Nat × Nat) 4 #[true, false, true, true, true, true, false, true, true, false, false] (fun s_ => [(9, .pointer (some ⟨s_.1, 0, none⟩)), (10, .pointer (some ⟨s_.2, 0, none⟩))]) (fun s_ w' => (w'.cell? ⟨gb247, 0, none⟩ = some (.int .i16 ((rd_T33 l0 x23_1).f0)) ∧ w'.cell? ⟨gb247, 1, none⟩ = some (.int .i16 ((rd_T33 l0 x23_1).f1)) ∧ w'.cell? ⟨gb247, 2, none⟩ = some (.int .i16 ((rd_T33 l0 x23_1).f2)) ∧ w'.cell? (ad246.add ((x6_1).toNat * 3)) = some (.int .i16 ((rd_T33 l0 x6_1).f0)) ∧ w'.cell? ⟨(ad246.add ((x6_1).toNat * 3)).block, (ad246.add ((x6_1).toNat * 3)).off + 1, none⟩ = some (.int .i16 ((rd_T33 l0 x6_1).f1)) ∧ w'.cell? ⟨(ad246.add ((x6_1).toNat * 3)).block, (ad246.add ((x6_1).toNat * 3)).off + 2, none⟩ = some (.int .i16 ((rd_T33 l0 x6_1).f2))) ∧ (w'.heap[gb241]? = some (.cells #[.int .i64 0, .int .i64 0] 43 (0, 0))) ∧ (w'.heap[gb247]? = some (.cells #[.int .i16 ((rd_T33 l0 x23_1).f0), .int .i16 ((rd_T33 l0 x23_1).f1), .int .i16 ((rd_T33 l0 x23_1).f2)] 33 (0, 0))) ∧ (w'.heap[s_.1]? = some (.cells #[.int .i64 0, .int .i64 0] 43 (0, 0))) ∧ (w'.heap[s_.2]? = some (.cells #[.int .i64 0, .int .i64 0] 43 (0, 0))) ∧ (w.heap.size ≤ s_.1) ∧ (w.heap.size ≤ s_.1) ∧ (gb241 ≠ s_.1) ∧ (s_.1 ≠ gb241) ∧ (gb247 ≠ s_.1) ∧ (s_.1 ≠ gb247) ∧ (s_.2 ≠ s_.1) ∧ (s_.1 ≠ s_.2) ∧ (w.heap.size ≤ s_.2) ∧ (w.heap.size ≤ s_.2) ∧ (gb241 ≠ s_.2) ∧ (s_.2 ≠ gb241) ∧ (gb247 ≠ s_.2) ∧ (s_.2 ≠ gb247) ∧ (Below w.heap.size w w')) ?_ ?_
                rotate_left
                · intro hJ7_8
                  refine join_ (σ := Unit) 5 #[true, true, true, true, true, true, false, false, false, false, false] (fun s_ => [(29, .agg #[.int .i64 t248, .int .i64 t249])]) (fun s_ w' => (w'.cell? ⟨gb247, 0, none⟩ = some (.int .i16 ((rd_T33 l0 x23_1).f0)) ∧ w'.cell? ⟨gb247, 1, none⟩ = some (.int .i16 ((rd_T33 l0 x23_1).f1)) ∧ w'.cell? ⟨gb247, 2, none⟩ = some (.int .i16 ((rd_T33 l0 x23_1).f2)) ∧ w'.cell? (ad246.add ((x6_1).toNat * 3)) = some (.int .i16 ((rd_T33 l0 x6_1).f0)) ∧ w'.cell? ⟨(ad246.add ((x6_1).toNat * 3)).block, (ad246.add ((x6_1).toNat * 3)).off + 1, none⟩ = some (.int .i16 ((rd_T33 l0 x6_1).f1)) ∧ w'.cell? ⟨(ad246.add ((x6_1).toNat * 3)).block, (ad246.add ((x6_1).toNat * 3)).off + 2, none⟩ = some (.int .i16 ((rd_T33 l0 x6_1).f2))) ∧ (w'.heap[gb241]? = some (.cells #[.int .i64 0, .int .i64 0] 43 (0, 0))) ∧ (w'.heap[gb247]? = some (.cells #[.int .i16 ((rd_T33 l0 x23_1).f0), .int .i16 ((rd_T33 l0 x23_1).f1), .int .i16 ((rd_T33 l0 x23_1).f2)] 33 (0, 0))) ∧ (Below w.heap.size w w')) ?_ ?_
                  rotate_left
                  · intro hJ1
                    refine join_ (σ := Nat) 5 #[true, false, true, true, true, true, false, true, false, false, false] (fun s_ => [(9, .pointer (some ⟨s_, 0, none⟩))]) (fun s_ w' => (w'.cell? ⟨gb247, 0, none⟩ = some (.int .i16 ((rd_T33 l0 x23_1).f0)) ∧ w'.cell? ⟨gb247, 1, none⟩ = some (.int .i16 ((rd_T33 l0 x23_1).f1)) ∧ w'.cell? ⟨gb247, 2, none⟩ = some (.int .i16 ((rd_T33 l0 x23_1).f2)) ∧ w'.cell? (ad246.add ((x6_1).toNat * 3)) = some (.int .i16 ((rd_T33 l0 x6_1).f0)) ∧ w'.cell? ⟨(ad246.add ((x6_1).toNat * 3)).block, (ad246.add ((x6_1).toNat * 3)).off + 1, none⟩ = some (.int .i16 ((rd_T33 l0 x6_1).f1)) ∧ w'.cell? ⟨(ad246.add ((x6_1).toNat * 3)).block, (ad246.add ((x6_1).toNat * 3)).off + 2, none⟩ = some (.int .i16 ((rd_T33 l0 x6_1).f2))) ∧ (w'.heap[gb241]? = some (.cells #[.int .i64 0, .int .i64 0] 43 (0, 0))) ∧ (w'.heap[gb247]? = some (.cells #[.int .i16 ((rd_T33 l0 x23_1).f0), .int .i16 ((rd_T33 l0 x23_1).f1), .int .i16 ((rd_T33 l0 x23_1).f2)] 33 (0, 0))) ∧ (w'.heap[s_]? = some (.cells #[.int .i64 0, .int .i64 0] 43 (0, 0))) ∧ (w.heap.size ≤ s_) ∧ (w.heap.size ≤ s_) ∧ (gb241 ≠ s_) ∧ (s_ ≠ gb241) ∧ (gb247 ≠ s_) ∧ (s_ ≠ gb247) ∧ (Below w.heap.size w w')) ?_ ?_
                    rotate_left
                    · intro hJ7
                      refine join_ (σ := Nat) 5 #[true, false, true, true, true, true, false, false, true, false, false] (fun s_ => [(10, .pointer (some ⟨s_, 0, none⟩))]) (fun s_ w' => (w'.cell? ⟨gb247, 0, none⟩ = some (.int .i16 ((rd_T33 l0 x23_1).f0)) ∧ w'.cell? ⟨gb247, 1, none⟩ = some (.int .i16 ((rd_T33 l0 x23_1).f1)) ∧ w'.cell? ⟨gb247, 2, none⟩ = some (.int .i16 ((rd_T33 l0 x23_1).f2)) ∧ w'.cell? (ad246.add ((x6_1).toNat * 3)) = some (.int .i16 ((rd_T33 l0 x6_1).f0)) ∧ w'.cell? ⟨(ad246.add ((x6_1).toNat * 3)).block, (ad246.add ((x6_1).toNat * 3)).off + 1, none⟩ = some (.int .i16 ((rd_T33 l0 x6_1).f1)) ∧ w'.cell? ⟨(ad246.add ((x6_1).toNat * 3)).block, (ad246.add ((x6_1).toNat * 3)).off + 2, none⟩ = some (.int .i16 ((rd_T33 l0 x6_1).f2))) ∧ (w'.heap[gb241]? = some (.cells #[.int .i64 0, .int .i64 0] 43 (0, 0))) ∧ (w'.heap[gb247]? = some (.cells #[.int .i16 ((rd_T33 l0 x23_1).f0), .int .i16 ((rd_T33 l0 x23_1).f1), .int .i16 ((rd_T33 l0 x23_1).f2)] 33 (0, 0))) ∧ (w'.heap[s_]? = some (.cells #[.int .i64 0, .int .i64 0] 43 (0, 0))) ∧ (w.heap.size ≤ s_) ∧ (w.heap.size ≤ s_) ∧ (gb241 ≠ s_) ∧ (s_ ≠ gb241) ∧ (gb247 ≠ s_) ∧ (s_ ≠ gb247) ∧ (Below w.heap.size w w')) ?_ ?_
                      rotate_left
                      · intro hJ8
                        refine three_ (i := 1) (j := 7) (k := 8) (Ni := some 29) (Nj := some 9) (Nk := some 10) #[true, true, true, true, true, true, false, false, false, false, false] #[true, false, true, true, true, true, false, true, false, false, false] #[true, false, true, true, true, true, false, false, true, false, false] rfl rfl rfl rfl rfl rfl (three_of HT_.out (by kernel_rfl)) (by decide) (by decide) (by decide) (fun K hK => ?_) (fun K hK => ?_) (fun K hK => ?_)
                        · skip
                          refine goes_ Try.func43 (by kernel_rfl) rfl #[.agg #[.int .i16 ((rd_T33 l0 x23_1).f0), .int .i16 ((rd_T33 l0 x23_1).f1), .int .i16 ((rd_T33 l0 x23_1).f2)]] (by rfl) rfl rfl zr ?_
                          with_reducible refine (impl_Yarn_count.calls k1 ((rd_T33 l0 x23_1).f0) ((rd_T33 l0 x23_1).f1) ((rd_T33 l0 x23_1).f2) t248 t249 _ A13.out).mono ?_
                          rintro e w23 ⟨rfl, hb⟩
                          refine ⟨_, rfl, ?_⟩
                          refine up3 (blk_below (g := gb241) (o := .cells #[.int .i64 0, .int .i64 0] 43 (0, 0)) (zq BK241.out) hb) (blk_below (g := gb247) (o := .cells #[.int .i16 ((rd_T33 l0 x23_1).f0), .int .i16 ((rd_T33 l0 x23_1).f1), .int .i16 ((rd_T33 l0 x23_1).f2)] 33 (0, 0)) (zq BK247.out) hb) (below_step (zb2 HB.out GE241.out GE247.out) hb) ?_
                          clear BK241 BK247 HB
                          intro BK241 BK247 HB
                          (try clear hb)
                          (try clear hb2)
                          (try clear hk)
                          (try clear hi)
                          refine hK.out _ _ ⟨(blk_cell BK247.out 0).trans rfl, (blk_cell BK247.out 1).trans rfl, (blk_cell BK247.out 2).trans rfl, (zc HB.out hw250_0), (zc HB.out hw250_1), (zc HB.out hw250_2)⟩ (fun hHeld => ?_)
                          clear hK K
                          refine norm_ za ?_
                          exact norm_ zp (hJ1 () _ ⟨hHeld, (zq BK241.out), (zq BK247.out), (zb2 HB.out GE241.out GE247.out)⟩)
                        · skip
                          refine box_step ?hg (N := 9) ?hd (cs := #[.int .i64 0, .int .i64 0]) (t := 43) ?hr ?_; (case hd => rfl); (case hg => rfl); (case hr => first | (go_simp; done) | (go_simp; rfl))
                          intro gb253 hg w23 hbox hb
                          refine up10 (blk_below (g := gb241) (o := .cells #[.int .i64 0, .int .i64 0] 43 (0, 0)) (zq BK241.out) hb) (blk_below (g := gb247) (o := .cells #[.int .i16 ((rd_T33 l0 x23_1).f0), .int .i16 ((rd_T33 l0 x23_1).f1), .int .i16 ((rd_T33 l0 x23_1).f2)] 33 (0, 0)) (zq BK247.out) hb) (below_step (zb2 HB.out GE241.out GE247.out) hb) (hbox) ((by rw [hg]; exact (below_size (zb2 HB.out GE241.out GE247.out)) : w.heap.size ≤ gb253)) ((by rw [hg]; exact (below_size (zb2 HB.out GE241.out GE247.out)) : w.heap.size ≤ gb253)) ((by rw [hg]; exact Nat.ne_of_lt (blk_lt (g := gb241) (o := .cells #[.int .i64 0, .int .i64 0] 43 (0, 0)) (zq BK241.out)) : gb241 ≠ gb253)) ((by rw [hg]; exact Nat.ne_of_gt (blk_lt (g := gb241) (o := .cells #[.int .i64 0, .int .i64 0] 43 (0, 0)) (zq BK241.out)) : gb253 ≠ gb241)) ((by rw [hg]; exact Nat.ne_of_lt (blk_lt (g := gb247) (o := .cells #[.int .i16 ((rd_T33 l0 x23_1).f0), .int .i16 ((rd_T33 l0 x23_1).f1), .int .i16 ((rd_T33 l0 x23_1).f2)] 33 (0, 0)) (zq BK247.out)) : gb247 ≠ gb253)) ((by rw [hg]; exact Nat.ne_of_gt (blk_lt (g := gb247) (o := .cells #[.int .i16 ((rd_T33 l0 x23_1).f0), .int .i16 ((rd_T33 l0 x23_1).f1), .int .i16 ((rd_T33 l0 x23_1).f2)] 33 (0, 0)) (zq BK247.out)) : gb253 ≠ gb247)) ?_
                          clear BK241 BK247 HB
                          intro BK241 BK247 HB BK253 GW253 GE253 NB241_253 NB253_241 NB247_253 NB253_247
                          clear hb hbox hg
                          refine hK.out _ _ ⟨(blk_cell BK247.out 0).trans rfl, (blk_cell BK247.out 1).trans rfl, (blk_cell BK247.out 2).trans rfl, (zc HB.out hw250_0), (zc HB.out hw250_1), (zc HB.out hw250_2)⟩ (fun hHeld => ?_)
                          clear hK K
                          refine norm_ za ?_
                          exact norm_ zp (hJ7 (gb253) _ ⟨hHeld, (zq BK241.out), (zq BK247.out), (zq BK253.out), GW253.out, GE253.out, NB241_253.out, NB253_241.out, NB247_253.out, NB253_247.out, (zb3 HB.out GE241.out GE247.out GE253.out)⟩)
                        · skip
                          refine box_step ?hg (N := 10) ?hd (cs := #[.int .i64 0, .int .i64 0]) (t := 43) ?hr ?_; (case hd => rfl); (case hg => rfl); (case hr => first | (go_simp; done) | (go_simp; rfl))
                          intro gb254 hg w23 hbox hb
                          refine up10 (blk_below (g := gb241) (o := .cells #[.int .i64 0, .int .i64 0] 43 (0, 0)) (zq BK241.out) hb) (blk_below (g := gb247) (o := .cells #[.int .i16 ((rd_T33 l0 x23_1).f0), .int .i16 ((rd_T33 l0 x23_1).f1), .int .i16 ((rd_T33 l0 x23_1).f2)] 33 (0, 0)) (zq BK247.out) hb) (below_step (zb2 HB.out GE241.out GE247.out) hb) (hbox) ((by rw [hg]; exact (below_size (zb2 HB.out GE241.out GE247.out)) : w.heap.size ≤ gb254)) ((by rw [hg]; exact (below_size (zb2 HB.out GE241.out GE247.out)) : w.heap.size ≤ gb254)) ((by rw [hg]; exact Nat.ne_of_lt (blk_lt (g := gb241) (o := .cells #[.int .i64 0, .int .i64 0] 43 (0, 0)) (zq BK241.out)) : gb241 ≠ gb254)) ((by rw [hg]; exact Nat.ne_of_gt (blk_lt (g := gb241) (o := .cells #[.int .i64 0, .int .i64 0] 43 (0, 0)) (zq BK241.out)) : gb254 ≠ gb241)) ((by rw [hg]; exact Nat.ne_of_lt (blk_lt (g := gb247) (o := .cells #[.int .i16 ((rd_T33 l0 x23_1).f0), .int .i16 ((rd_T33 l0 x23_1).f1), .int .i16 ((rd_T33 l0 x23_1).f2)] 33 (0, 0)) (zq BK247.out)) : gb247 ≠ gb254)) ((by rw [hg]; exact Nat.ne_of_gt (blk_lt (g := gb247) (o := .cells #[.int .i16 ((rd_T33 l0 x23_1).f0), .int .i16 ((rd_T33 l0 x23_1).f1), .int .i16 ((rd_T33 l0 x23_1).f2)] 33 (0, 0)) (zq BK247.out)) : gb254 ≠ gb247)) ?_
                          clear BK241 BK247 HB
                          intro BK241 BK247 HB BK254 GW254 GE254 NB241_254 NB254_241 NB247_254 NB254_247
                          clear hb hbox hg
                          refine hK.out _ _ ⟨(blk_cell BK247.out 0).trans rfl, (blk_cell BK247.out 1).trans rfl, (blk_cell BK247.out 2).trans rfl, (zc HB.out hw250_0), (zc HB.out hw250_1), (zc HB.out hw250_2)⟩ (fun hHeld => ?_)
                          clear hK K
                          refine norm_ za ?_
                          exact norm_ zp (hJ8 (gb254) _ ⟨hHeld, (zq BK241.out), (zq BK247.out), (zq BK254.out), GW254.out, GE254.out, NB241_254.out, NB254_241.out, NB247_254.out, NB254_247.out, (zb3 HB.out GE241.out GE247.out GE254.out)⟩)
                      · skip
                        rintro gb254 w24 ⟨hS_, h0_, h1_, h2_, h3_, h4_, h5_, h6_, h7_, h8_, h9_⟩
                        refine up10 (show w24.heap[gb241]? = some (.cells #[.int .i64 0, .int .i64 0] 43 (0, 0)) from h0_) (show w24.heap[gb247]? = some (.cells #[.int .i16 ((rd_T33 l0 x23_1).f0), .int .i16 ((rd_T33 l0 x23_1).f1), .int .i16 ((rd_T33 l0 x23_1).f2)] 33 (0, 0)) from h1_) (show w24.heap[gb254]? = some (.cells #[.int .i64 0, .int .i64 0] 43 (0, 0)) from h2_) (show w.heap.size ≤ gb254 from h3_) (show w.heap.size ≤ gb254 from h4_) (show gb241 ≠ gb254 from h5_) (show gb254 ≠ gb241 from h6_) (show gb247 ≠ gb254 from h7_) (show gb254 ≠ gb247 from h8_) (show Below w.heap.size w w24 from h9_) ?_
                        clear BK241 BK247 HB h0_ h1_ h2_ h3_ h4_ h5_ h6_ h7_ h8_ h9_
                        intro BK241 BK247 BK254 GW254 GE254 NB241_254 NB254_241 NB247_254 NB254_247 HB
                        have hHeld : w24.cell? ⟨gb247, 0, none⟩ = some (.int .i16 ((rd_T33 l0 x23_1).f0)) ∧ w24.cell? ⟨gb247, 1, none⟩ = some (.int .i16 ((rd_T33 l0 x23_1).f1)) ∧ w24.cell? ⟨gb247, 2, none⟩ = some (.int .i16 ((rd_T33 l0 x23_1).f2)) ∧ w24.cell? (ad246.add ((x6_1).toNat * 3)) = some (.int .i16 ((rd_T33 l0 x6_1).f0)) ∧ w24.cell? ⟨(ad246.add ((x6_1).toNat * 3)).block, (ad246.add ((x6_1).toNat * 3)).off + 1, none⟩ = some (.int .i16 ((rd_T33 l0 x6_1).f1)) ∧ w24.cell? ⟨(ad246.add ((x6_1).toNat * 3)).block, (ad246.add ((x6_1).toNat * 3)).off + 2, none⟩ = some (.int .i16 ((rd_T33 l0 x6_1).f2)) := hS_
                        refine norm_ (a' := ?_) ?_ ?_
                        rotate_left
                        · simp only [putAll, Act.put, List.setIfInBounds_toArray, List.set_cons_zero, List.set_cons_succ]
                          rfl
                        refine two_ (i := 1) (j := 7) (Ni := some 29) (Nj := some 9) #[true, true, true, true, true, true, false, false, true, false, false] #[true, false, true, true, true, true, false, true, true, false, false] rfl rfl rfl rfl (two_of HT_.out (by kernel_rfl)) (by decide) (by decide) (fun K hK => ?_) (fun K hK => ?_)
                        · skip
                          refine goes_ Try.func43 (by kernel_rfl) rfl #[.agg #[.int .i16 ((rd_T33 l0 x23_1).f0), .int .i16 ((rd_T33 l0 x23_1).f1), .int .i16 ((rd_T33 l0 x23_1).f2)]] (by rfl) rfl rfl zr ?_
                          with_reducible refine (impl_Yarn_count.calls k1 ((rd_T33 l0 x23_1).f0) ((rd_T33 l0 x23_1).f1) ((rd_T33 l0 x23_1).f2) t248 t249 _ A13.out).mono ?_
                          rintro e w25 ⟨rfl, hb⟩
                          refine ⟨_, rfl, ?_⟩
                          refine up4 (blk_below (g := gb241) (o := .cells #[.int .i64 0, .int .i64 0] 43 (0, 0)) (zq BK241.out) hb) (blk_below (g := gb247) (o := .cells #[.int .i16 ((rd_T33 l0 x23_1).f0), .int .i16 ((rd_T33 l0 x23_1).f1), .int .i16 ((rd_T33 l0 x23_1).f2)] 33 (0, 0)) (zq BK247.out) hb) (blk_below (g := gb254) (o := .cells #[.int .i64 0, .int .i64 0] 43 (0, 0)) (zq BK254.out) hb) (below_step (zb3 HB.out GE241.out GE247.out GE254.out) hb) ?_
                          clear BK241 BK247 BK254 HB
                          intro BK241 BK247 BK254 HB
                          (try clear hb)
                          (try clear hb2)
                          (try clear hk)
                          (try clear hi)
                          refine hK.out _ _ ⟨(blk_cell BK247.out 0).trans rfl, (blk_cell BK247.out 1).trans rfl, (blk_cell BK247.out 2).trans rfl, (zc HB.out hw250_0), (zc HB.out hw250_1), (zc HB.out hw250_2)⟩ (fun hHeld => ?_)
                          clear hK K
                          refine norm_ za ?_
                          exact norm_ zp (hJ1_8 (gb254) _ ⟨hHeld, (zq BK241.out), (zq BK247.out), (zq BK254.out), GW254.out, GE254.out, NB241_254.out, NB254_241.out, NB247_254.out, NB254_247.out, (zb3 HB.out GE241.out GE247.out GE254.out)⟩)
                        · skip
                          refine box_step ?hg (N := 9) ?hd (cs := #[.int .i64 0, .int .i64 0]) (t := 43) ?hr ?_; (case hd => rfl); (case hg => rfl); (case hr => first | (go_simp; done) | (go_simp; rfl))
                          intro gb253 hg w25 hbox hb
                          refine up13 (blk_below (g := gb241) (o := .cells #[.int .i64 0, .int .i64 0] 43 (0, 0)) (zq BK241.out) hb) (blk_below (g := gb247) (o := .cells #[.int .i16 ((rd_T33 l0 x23_1).f0), .int .i16 ((rd_T33 l0 x23_1).f1), .int .i16 ((rd_T33 l0 x23_1).f2)] 33 (0, 0)) (zq BK247.out) hb) (blk_below (g := gb254) (o := .cells #[.int .i64 0, .int .i64 0] 43 (0, 0)) (zq BK254.out) hb) (below_step (zb3 HB.out GE241.out GE247.out GE254.out) hb) (hbox) ((by rw [hg]; exact (below_size (zb3 HB.out GE241.out GE247.out GE254.out)) : w.heap.size ≤ gb253)) ((by rw [hg]; exact (below_size (zb3 HB.out GE241.out GE247.out GE254.out)) : w.heap.size ≤ gb253)) ((by rw [hg]; exact Nat.ne_of_lt (blk_lt (g := gb241) (o := .cells #[.int .i64 0, .int .i64 0] 43 (0, 0)) (zq BK241.out)) : gb241 ≠ gb253)) ((by rw [hg]; exact Nat.ne_of_gt (blk_lt (g := gb241) (o := .cells #[.int .i64 0, .int .i64 0] 43 (0, 0)) (zq BK241.out)) : gb253 ≠ gb241)) ((by rw [hg]; exact Nat.ne_of_lt (blk_lt (g := gb247) (o := .cells #[.int .i16 ((rd_T33 l0 x23_1).f0), .int .i16 ((rd_T33 l0 x23_1).f1), .int .i16 ((rd_T33 l0 x23_1).f2)] 33 (0, 0)) (zq BK247.out)) : gb247 ≠ gb253)) ((by rw [hg]; exact Nat.ne_of_gt (blk_lt (g := gb247) (o := .cells #[.int .i16 ((rd_T33 l0 x23_1).f0), .int .i16 ((rd_T33 l0 x23_1).f1), .int .i16 ((rd_T33 l0 x23_1).f2)] 33 (0, 0)) (zq BK247.out)) : gb253 ≠ gb247)) ((by rw [hg]; exact Nat.ne_of_lt (blk_lt (g := gb254) (o := .cells #[.int .i64 0, .int .i64 0] 43 (0, 0)) (zq BK254.out)) : gb254 ≠ gb253)) ((by rw [hg]; exact Nat.ne_of_gt (blk_lt (g := gb254) (o := .cells #[.int .i64 0, .int .i64 0] 43 (0, 0)) (zq BK254.out)) : gb253 ≠ gb254)) ?_
                          clear BK241 BK247 BK254 HB
                          intro BK241 BK247 BK254 HB BK253 GW253 GE253 NB241_253 NB253_241 NB247_253 NB253_247 NB254_253 NB253_254
                          clear hb hbox hg
                          refine hK.out _ _ ⟨(blk_cell BK247.out 0).trans rfl, (blk_cell BK247.out 1).trans rfl, (blk_cell BK247.out 2).trans rfl, (zc HB.out hw250_0), (zc HB.out hw250_1), (zc HB.out hw250_2)⟩ (fun hHeld => ?_)
                          clear hK K
                          refine norm_ za ?_
                          exact norm_ zp (hJ7_8 (gb253, gb254) _ ⟨hHeld, (zq BK241.out), (zq BK247.out), (zq BK253.out), (zq BK254.out), GW253.out, GE253.out, NB241_253.out, NB253_241.out, NB247_253.out, NB253_247.out, NB254_253.out, NB253_254.out, GW254.out, GE254.out, NB241_254.out, NB254_241.out, NB247_254.out, NB254_247.out, (zb4 HB.out GE241.out GE247.out GE254.out GE253.out)⟩)
                    · skip
                      rintro gb253 w24 ⟨hS_, h0_, h1_, h2_, h3_, h4_, h5_, h6_, h7_, h8_, h9_⟩
                      refine up10 (show w24.heap[gb241]? = some (.cells #[.int .i64 0, .int .i64 0] 43 (0, 0)) from h0_) (show w24.heap[gb247]? = some (.cells #[.int .i16 ((rd_T33 l0 x23_1).f0), .int .i16 ((rd_T33 l0 x23_1).f1), .int .i16 ((rd_T33 l0 x23_1).f2)] 33 (0, 0)) from h1_) (show w24.heap[gb253]? = some (.cells #[.int .i64 0, .int .i64 0] 43 (0, 0)) from h2_) (show w.heap.size ≤ gb253 from h3_) (show w.heap.size ≤ gb253 from h4_) (show gb241 ≠ gb253 from h5_) (show gb253 ≠ gb241 from h6_) (show gb247 ≠ gb253 from h7_) (show gb253 ≠ gb247 from h8_) (show Below w.heap.size w w24 from h9_) ?_
                      clear BK241 BK247 HB h0_ h1_ h2_ h3_ h4_ h5_ h6_ h7_ h8_ h9_
                      intro BK241 BK247 BK253 GW253 GE253 NB241_253 NB253_241 NB247_253 NB253_247 HB
                      have hHeld : w24.cell? ⟨gb247, 0, none⟩ = some (.int .i16 ((rd_T33 l0 x23_1).f0)) ∧ w24.cell? ⟨gb247, 1, none⟩ = some (.int .i16 ((rd_T33 l0 x23_1).f1)) ∧ w24.cell? ⟨gb247, 2, none⟩ = some (.int .i16 ((rd_T33 l0 x23_1).f2)) ∧ w24.cell? (ad246.add ((x6_1).toNat * 3)) = some (.int .i16 ((rd_T33 l0 x6_1).f0)) ∧ w24.cell? ⟨(ad246.add ((x6_1).toNat * 3)).block, (ad246.add ((x6_1).toNat * 3)).off + 1, none⟩ = some (.int .i16 ((rd_T33 l0 x6_1).f1)) ∧ w24.cell? ⟨(ad246.add ((x6_1).toNat * 3)).block, (ad246.add ((x6_1).toNat * 3)).off + 2, none⟩ = some (.int .i16 ((rd_T33 l0 x6_1).f2)) := hS_
                      refine norm_ (a' := ?_) ?_ ?_
                      rotate_left
                      · simp only [putAll, Act.put, List.setIfInBounds_toArray, List.set_cons_zero, List.set_cons_succ]
                        rfl
                      refine two_ (i := 1) (j := 8) (Ni := some 29) (Nj := some 10) #[true, true, true, true, true, true, false, true, false, false, false] #[true, false, true, true, true, true, false, true, true, false, false] rfl rfl rfl rfl (two_of HT_.out (by kernel_rfl)) (by decide) (by decide) (fun K hK => ?_) (fun K hK => ?_)
                      · skip
                        refine goes_ Try.func43 (by kernel_rfl) rfl #[.agg #[.int .i16 ((rd_T33 l0 x23_1).f0), .int .i16 ((rd_T33 l0 x23_1).f1), .int .i16 ((rd_T33 l0 x23_1).f2)]] (by rfl) rfl rfl zr ?_
                        with_reducible refine (impl_Yarn_count.calls k1 ((rd_T33 l0 x23_1).f0) ((rd_T33 l0 x23_1).f1) ((rd_T33 l0 x23_1).f2) t248 t249 _ A13.out).mono ?_
                        rintro e w25 ⟨rfl, hb⟩
                        refine ⟨_, rfl, ?_⟩
                        refine up4 (blk_below (g := gb241) (o := .cells #[.int .i64 0, .int .i64 0] 43 (0, 0)) (zq BK241.out) hb) (blk_below (g := gb247) (o := .cells #[.int .i16 ((rd_T33 l0 x23_1).f0), .int .i16 ((rd_T33 l0 x23_1).f1), .int .i16 ((rd_T33 l0 x23_1).f2)] 33 (0, 0)) (zq BK247.out) hb) (blk_below (g := gb253) (o := .cells #[.int .i64 0, .int .i64 0] 43 (0, 0)) (zq BK253.out) hb) (below_step (zb3 HB.out GE241.out GE247.out GE253.out) hb) ?_
                        clear BK241 BK247 BK253 HB
                        intro BK241 BK247 BK253 HB
                        (try clear hb)
                        (try clear hb2)
                        (try clear hk)
                        (try clear hi)
                        refine hK.out _ _ ⟨(blk_cell BK247.out 0).trans rfl, (blk_cell BK247.out 1).trans rfl, (blk_cell BK247.out 2).trans rfl, (zc HB.out hw250_0), (zc HB.out hw250_1), (zc HB.out hw250_2)⟩ (fun hHeld => ?_)
                        clear hK K
                        refine norm_ za ?_
                        exact norm_ zp (hJ1_7 (gb253) _ ⟨hHeld, (zq BK241.out), (zq BK247.out), (zq BK253.out), GW253.out, GE253.out, NB241_253.out, NB253_241.out, NB247_253.out, NB253_247.out, (zb3 HB.out GE241.out GE247.out GE253.out)⟩)
                      · skip
                        refine box_step ?hg (N := 10) ?hd (cs := #[.int .i64 0, .int .i64 0]) (t := 43) ?hr ?_; (case hd => rfl); (case hg => rfl); (case hr => first | (go_simp; done) | (go_simp; rfl))
                        intro gb254 hg w25 hbox hb
                        refine up13 (blk_below (g := gb241) (o := .cells #[.int .i64 0, .int .i64 0] 43 (0, 0)) (zq BK241.out) hb) (blk_below (g := gb247) (o := .cells #[.int .i16 ((rd_T33 l0 x23_1).f0), .int .i16 ((rd_T33 l0 x23_1).f1), .int .i16 ((rd_T33 l0 x23_1).f2)] 33 (0, 0)) (zq BK247.out) hb) (blk_below (g := gb253) (o := .cells #[.int .i64 0, .int .i64 0] 43 (0, 0)) (zq BK253.out) hb) (below_step (zb3 HB.out GE241.out GE247.out GE253.out) hb) (hbox) ((by rw [hg]; exact (below_size (zb3 HB.out GE241.out GE247.out GE253.out)) : w.heap.size ≤ gb254)) ((by rw [hg]; exact (below_size (zb3 HB.out GE241.out GE247.out GE253.out)) : w.heap.size ≤ gb254)) ((by rw [hg]; exact Nat.ne_of_lt (blk_lt (g := gb241) (o := .cells #[.int .i64 0, .int .i64 0] 43 (0, 0)) (zq BK241.out)) : gb241 ≠ gb254)) ((by rw [hg]; exact Nat.ne_of_gt (blk_lt (g := gb241) (o := .cells #[.int .i64 0, .int .i64 0] 43 (0, 0)) (zq BK241.out)) : gb254 ≠ gb241)) ((by rw [hg]; exact Nat.ne_of_lt (blk_lt (g := gb247) (o := .cells #[.int .i16 ((rd_T33 l0 x23_1).f0), .int .i16 ((rd_T33 l0 x23_1).f1), .int .i16 ((rd_T33 l0 x23_1).f2)] 33 (0, 0)) (zq BK247.out)) : gb247 ≠ gb254)) ((by rw [hg]; exact Nat.ne_of_gt (blk_lt (g := gb247) (o := .cells #[.int .i16 ((rd_T33 l0 x23_1).f0), .int .i16 ((rd_T33 l0 x23_1).f1), .int .i16 ((rd_T33 l0 x23_1).f2)] 33 (0, 0)) (zq BK247.out)) : gb254 ≠ gb247)) ((by rw [hg]; exact Nat.ne_of_lt (blk_lt (g := gb253) (o := .cells #[.int .i64 0, .int .i64 0] 43 (0, 0)) (zq BK253.out)) : gb253 ≠ gb254)) ((by rw [hg]; exact Nat.ne_of_gt (blk_lt (g := gb253) (o := .cells #[.int .i64 0, .int .i64 0] 43 (0, 0)) (zq BK253.out)) : gb254 ≠ gb253)) ?_
                        clear BK241 BK247 BK253 HB
                        intro BK241 BK247 BK253 HB BK254 GW254 GE254 NB241_254 NB254_241 NB247_254 NB254_247 NB253_254 NB254_253
                        clear hb hbox hg
                        refine hK.out _ _ ⟨(blk_cell BK247.out 0).trans rfl, (blk_cell BK247.out 1).trans rfl, (blk_cell BK247.out 2).trans rfl, (zc HB.out hw250_0), (zc HB.out hw250_1), (zc HB.out hw250_2)⟩ (fun hHeld => ?_)
                        clear hK K
                        refine norm_ za ?_
                        exact norm_ zp (hJ7_8 (gb253, gb254) _ ⟨hHeld, (zq BK241.out), (zq BK247.out), (zq BK253.out), (zq BK254.out), GW253.out, GE253.out, NB241_253.out, NB253_241.out, NB247_253.out, NB253_247.out, NB254_253.out, NB253_254.out, GW254.out, GE254.out, NB241_254.out, NB254_241.out, NB247_254.out, NB254_247.out, (zb4 HB.out GE241.out GE247.out GE253.out GE254.out)⟩)
                  · skip
                    rintro _ w24 ⟨hS_, h0_, h1_, h2_⟩
                    refine up3 (show w24.heap[gb241]? = some (.cells #[.int .i64 0, .int .i64 0] 43 (0, 0)) from h0_) (show w24.heap[gb247]? = some (.cells #[.int .i16 ((rd_T33 l0 x23_1).f0), .int .i16 ((rd_T33 l0 x23_1).f1), .int .i16 ((rd_T33 l0 x23_1).f2)] 33 (0, 0)) from h1_) (show Below w.heap.size w w24 from h2_) ?_
                    clear BK241 BK247 HB h0_ h1_ h2_
                    intro BK241 BK247 HB
                    have hHeld : w24.cell? ⟨gb247, 0, none⟩ = some (.int .i16 ((rd_T33 l0 x23_1).f0)) ∧ w24.cell? ⟨gb247, 1, none⟩ = some (.int .i16 ((rd_T33 l0 x23_1).f1)) ∧ w24.cell? ⟨gb247, 2, none⟩ = some (.int .i16 ((rd_T33 l0 x23_1).f2)) ∧ w24.cell? (ad246.add ((x6_1).toNat * 3)) = some (.int .i16 ((rd_T33 l0 x6_1).f0)) ∧ w24.cell? ⟨(ad246.add ((x6_1).toNat * 3)).block, (ad246.add ((x6_1).toNat * 3)).off + 1, none⟩ = some (.int .i16 ((rd_T33 l0 x6_1).f1)) ∧ w24.cell? ⟨(ad246.add ((x6_1).toNat * 3)).block, (ad246.add ((x6_1).toNat * 3)).off + 2, none⟩ = some (.int .i16 ((rd_T33 l0 x6_1).f2)) := hS_
                    refine norm_ (a' := ?_) ?_ ?_
                    rotate_left
                    · simp only [putAll, Act.put, List.setIfInBounds_toArray, List.set_cons_zero, List.set_cons_succ]
                      rfl
                    refine three_ (i := 6) (j := 7) (k := 8) (Ni := some 34) (Nj := some 9) (Nk := some 10) #[true, true, true, true, true, true, true, false, false, false, false] #[true, true, true, true, true, true, false, true, false, false, false] #[true, true, true, true, true, true, false, false, true, false, false] rfl rfl rfl rfl rfl rfl (three_of HT_.out (by kernel_rfl)) (by decide) (by decide) (by decide) (fun K hK => ?_) (fun K hK => ?_) (fun K hK => ?_)
                    · skip
                      refine goes_ Try.func43 (by kernel_rfl) rfl #[.agg #[.int .i16 ((rd_T33 l0 x6_1).f0), .int .i16 ((rd_T33 l0 x6_1).f1), .int .i16 ((rd_T33 l0 x6_1).f2)]] (by rfl) rfl rfl zr ?_
                      with_reducible refine (impl_Yarn_count.calls k1 ((rd_T33 l0 x6_1).f0) ((rd_T33 l0 x6_1).f1) ((rd_T33 l0 x6_1).f2) t251 t252 _ A16.out).mono ?_
                      rintro e w25 ⟨rfl, hb⟩
                      refine ⟨_, rfl, ?_⟩
                      refine up3 (blk_below (g := gb241) (o := .cells #[.int .i64 0, .int .i64 0] 43 (0, 0)) (zq BK241.out) hb) (blk_below (g := gb247) (o := .cells #[.int .i16 ((rd_T33 l0 x23_1).f0), .int .i16 ((rd_T33 l0 x23_1).f1), .int .i16 ((rd_T33 l0 x23_1).f2)] 33 (0, 0)) (zq BK247.out) hb) (below_step (zb2 HB.out GE241.out GE247.out) hb) ?_
                      clear BK241 BK247 HB
                      intro BK241 BK247 HB
                      (try clear hb)
                      (try clear hb2)
                      (try clear hk)
                      (try clear hi)
                      refine hK.out _ _ ⟨(blk_cell BK247.out 0).trans rfl, (blk_cell BK247.out 1).trans rfl, (blk_cell BK247.out 2).trans rfl, (zc HB.out hw250_0), (zc HB.out hw250_1), (zc HB.out hw250_2)⟩ (fun hHeld => ?_)
                      clear hK K
                      refine norm_ za ?_
                      exact norm_ zp (hJ1_6 () _ ⟨hHeld, (zq BK241.out), (zq BK247.out), (zb2 HB.out GE241.out GE247.out)⟩)
                    · skip
                      refine box_step ?hg (N := 9) ?hd (cs := #[.int .i64 0, .int .i64 0]) (t := 43) ?hr ?_; (case hd => rfl); (case hg => rfl); (case hr => first | (go_simp; done) | (go_simp; rfl))
                      intro gb253 hg w25 hbox hb
                      refine up10 (blk_below (g := gb241) (o := .cells #[.int .i64 0, .int .i64 0] 43 (0, 0)) (zq BK241.out) hb) (blk_below (g := gb247) (o := .cells #[.int .i16 ((rd_T33 l0 x23_1).f0), .int .i16 ((rd_T33 l0 x23_1).f1), .int .i16 ((rd_T33 l0 x23_1).f2)] 33 (0, 0)) (zq BK247.out) hb) (below_step (zb2 HB.out GE241.out GE247.out) hb) (hbox) ((by rw [hg]; exact (below_size (zb2 HB.out GE241.out GE247.out)) : w.heap.size ≤ gb253)) ((by rw [hg]; exact (below_size (zb2 HB.out GE241.out GE247.out)) : w.heap.size ≤ gb253)) ((by rw [hg]; exact Nat.ne_of_lt (blk_lt (g := gb241) (o := .cells #[.int .i64 0, .int .i64 0] 43 (0, 0)) (zq BK241.out)) : gb241 ≠ gb253)) ((by rw [hg]; exact Nat.ne_of_gt (blk_lt (g := gb241) (o := .cells #[.int .i64 0, .int .i64 0] 43 (0, 0)) (zq BK241.out)) : gb253 ≠ gb241)) ((by rw [hg]; exact Nat.ne_of_lt (blk_lt (g := gb247) (o := .cells #[.int .i16 ((rd_T33 l0 x23_1).f0), .int .i16 ((rd_T33 l0 x23_1).f1), .int .i16 ((rd_T33 l0 x23_1).f2)] 33 (0, 0)) (zq BK247.out)) : gb247 ≠ gb253)) ((by rw [hg]; exact Nat.ne_of_gt (blk_lt (g := gb247) (o := .cells #[.int .i16 ((rd_T33 l0 x23_1).f0), .int .i16 ((rd_T33 l0 x23_1).f1), .int .i16 ((rd_T33 l0 x23_1).f2)] 33 (0, 0)) (zq BK247.out)) : gb253 ≠ gb247)) ?_
                      clear BK241 BK247 HB
                      intro BK241 BK247 HB BK253 GW253 GE253 NB241_253 NB253_241 NB247_253 NB253_247
                      clear hb hbox hg
                      refine hK.out _ _ ⟨(blk_cell BK247.out 0).trans rfl, (blk_cell BK247.out 1).trans rfl, (blk_cell BK247.out 2).trans rfl, (zc HB.out hw250_0), (zc HB.out hw250_1), (zc HB.out hw250_2)⟩ (fun hHeld => ?_)
                      clear hK K
                      refine norm_ za ?_
                      exact norm_ zp (hJ1_7 (gb253) _ ⟨hHeld, (zq BK241.out), (zq BK247.out), (zq BK253.out), GW253.out, GE253.out, NB241_253.out, NB253_241.out, NB247_253.out, NB253_247.out, (zb3 HB.out GE241.out GE247.out GE253.out)⟩)
                    · skip
                      refine box_step ?hg (N := 10) ?hd (cs := #[.int .i64 0, .int .i64 0]) (t := 43) ?hr ?_; (case hd => rfl); (case hg => rfl); (case hr => first | (go_simp; done) | (go_simp; rfl))
                      intro gb254 hg w25 hbox hb
                      refine up10 (blk_below (g := gb241) (o := .cells #[.int .i64 0, .int .i64 0] 43 (0, 0)) (zq BK241.out) hb) (blk_below (g := gb247) (o := .cells #[.int .i16 ((rd_T33 l0 x23_1).f0), .int .i16 ((rd_T33 l0 x23_1).f1), .int .i16 ((rd_T33 l0 x23_1).f2)] 33 (0, 0)) (zq BK247.out) hb) (below_step (zb2 HB.out GE241.out GE247.out) hb) (hbox) ((by rw [hg]; exact (below_size (zb2 HB.out GE241.out GE247.out)) : w.heap.size ≤ gb254)) ((by rw [hg]; exact (below_size (zb2 HB.out GE241.out GE247.out)) : w.heap.size ≤ gb254)) ((by rw [hg]; exact Nat.ne_of_lt (blk_lt (g := gb241) (o := .cells #[.int .i64 0, .int .i64 0] 43 (0, 0)) (zq BK241.out)) : gb241 ≠ gb254)) ((by rw [hg]; exact Nat.ne_of_gt (blk_lt (g := gb241) (o := .cells #[.int .i64 0, .int .i64 0] 43 (0, 0)) (zq BK241.out)) : gb254 ≠ gb241)) ((by rw [hg]; exact Nat.ne_of_lt (blk_lt (g := gb247) (o := .cells #[.int .i16 ((rd_T33 l0 x23_1).f0), .int .i16 ((rd_T33 l0 x23_1).f1), .int .i16 ((rd_T33 l0 x23_1).f2)] 33 (0, 0)) (zq BK247.out)) : gb247 ≠ gb254)) ((by rw [hg]; exact Nat.ne_of_gt (blk_lt (g := gb247) (o := .cells #[.int .i16 ((rd_T33 l0 x23_1).f0), .int .i16 ((rd_T33 l0 x23_1).f1), .int .i16 ((rd_T33 l0 x23_1).f2)] 33 (0, 0)) (zq BK247.out)) : gb254 ≠ gb247)) ?_
                      clear BK241 BK247 HB
                      intro BK241 BK247 HB BK254 GW254 GE254 NB241_254 NB254_241 NB247_254 NB254_247
                      clear hb hbox hg
                      refine hK.out _ _ ⟨(blk_cell BK247.out 0).trans rfl, (blk_cell BK247.out 1).trans rfl, (blk_cell BK247.out 2).trans rfl, (zc HB.out hw250_0), (zc HB.out hw250_1), (zc HB.out hw250_2)⟩ (fun hHeld => ?_)
                      clear hK K
                      refine norm_ za ?_
                      exact norm_ zp (hJ1_8 (gb254) _ ⟨hHeld, (zq BK241.out), (zq BK247.out), (zq BK254.out), GW254.out, GE254.out, NB241_254.out, NB254_241.out, NB247_254.out, NB254_247.out, (zb3 HB.out GE241.out GE247.out GE254.out)⟩)
                · skip
                  rintro ⟨gb253, gb254⟩ w25 ⟨hS_, h0_, h1_, h2_, h3_, h4_, h5_, h6_, h7_, h8_, h9_, h10_, h11_, h12_, h13_, h14_, h15_, h16_, h17_, h18_⟩
                  refine up19 (show w25.heap[gb241]? = some (.cells #[.int .i64 0, .int .i64 0] 43 (0, 0)) from h0_) (show w25.heap[gb247]? = some (.cells #[.int .i16 ((rd_T33 l0 x23_1).f0), .int .i16 ((rd_T33 l0 x23_1).f1), .int .i16 ((rd_T33 l0 x23_1).f2)] 33 (0, 0)) from h1_) (show w25.heap[gb253]? = some (.cells #[.int .i64 0, .int .i64 0] 43 (0, 0)) from h2_) (show w25.heap[gb254]? = some (.cells #[.int .i64 0, .int .i64 0] 43 (0, 0)) from h3_) (show w.heap.size ≤ gb253 from h4_) (show w.heap.size ≤ gb253 from h5_) (show gb241 ≠ gb253 from h6_) (show gb253 ≠ gb241 from h7_) (show gb247 ≠ gb253 from h8_) (show gb253 ≠ gb247 from h9_) (show gb254 ≠ gb253 from h10_) (show gb253 ≠ gb254 from h11_) (show w.heap.size ≤ gb254 from h12_) (show w.heap.size ≤ gb254 from h13_) (show gb241 ≠ gb254 from h14_) (show gb254 ≠ gb241 from h15_) (show gb247 ≠ gb254 from h16_) (show gb254 ≠ gb247 from h17_) (show Below w.heap.size w w25 from h18_) ?_
                  clear BK241 BK247 HB h0_ h1_ h2_ h3_ h4_ h5_ h6_ h7_ h8_ h9_ h10_ h11_ h12_ h13_ h14_ h15_ h16_ h17_ h18_
                  intro BK241 BK247 BK253 BK254 GW253 GE253 NB241_253 NB253_241 NB247_253 NB253_247 NB254_253 NB253_254 GW254 GE254 NB241_254 NB254_241 NB247_254 NB254_247 HB
                  have hHeld : w25.cell? ⟨gb247, 0, none⟩ = some (.int .i16 ((rd_T33 l0 x23_1).f0)) ∧ w25.cell? ⟨gb247, 1, none⟩ = some (.int .i16 ((rd_T33 l0 x23_1).f1)) ∧ w25.cell? ⟨gb247, 2, none⟩ = some (.int .i16 ((rd_T33 l0 x23_1).f2)) ∧ w25.cell? (ad246.add ((x6_1).toNat * 3)) = some (.int .i16 ((rd_T33 l0 x6_1).f0)) ∧ w25.cell? ⟨(ad246.add ((x6_1).toNat * 3)).block, (ad246.add ((x6_1).toNat * 3)).off + 1, none⟩ = some (.int .i16 ((rd_T33 l0 x6_1).f1)) ∧ w25.cell? ⟨(ad246.add ((x6_1).toNat * 3)).block, (ad246.add ((x6_1).toNat * 3)).off + 2, none⟩ = some (.int .i16 ((rd_T33 l0 x6_1).f2)) := hS_
                  refine norm_ (a' := ?_) ?_ ?_
                  rotate_left
                  · simp only [putAll, Act.put, List.setIfInBounds_toArray, List.set_cons_zero, List.set_cons_succ]
                    rfl
                  refine one_ (i := 1) (N := some 29) #[true, true, true, true, true, true, false, true, true, false, false] rfl rfl (one_of HT_.out (by kernel_rfl)) (by decide) (fun K hK => ?_)
                  refine goes_ Try.func43 (by kernel_rfl) rfl #[.agg #[.int .i16 ((rd_T33 l0 x23_1).f0), .int .i16 ((rd_T33 l0 x23_1).f1), .int .i16 ((rd_T33 l0 x23_1).f2)]] (by rfl) rfl rfl zr ?_
                  with_reducible refine (impl_Yarn_count.calls k1 ((rd_T33 l0 x23_1).f0) ((rd_T33 l0 x23_1).f1) ((rd_T33 l0 x23_1).f2) t248 t249 _ A13.out).mono ?_
                  rintro e w26 ⟨rfl, hb⟩
                  refine ⟨_, rfl, ?_⟩
                  refine up5 (blk_below (g := gb241) (o := .cells #[.int .i64 0, .int .i64 0] 43 (0, 0)) (zq BK241.out) hb) (blk_below (g := gb247) (o := .cells #[.int .i16 ((rd_T33 l0 x23_1).f0), .int .i16 ((rd_T33 l0 x23_1).f1), .int .i16 ((rd_T33 l0 x23_1).f2)] 33 (0, 0)) (zq BK247.out) hb) (blk_below (g := gb253) (o := .cells #[.int .i64 0, .int .i64 0] 43 (0, 0)) (zq BK253.out) hb) (blk_below (g := gb254) (o := .cells #[.int .i64 0, .int .i64 0] 43 (0, 0)) (zq BK254.out) hb) (below_step (zb4 HB.out GE241.out GE247.out GE253.out GE254.out) hb) ?_
                  clear BK241 BK247 BK253 BK254 HB
                  intro BK241 BK247 BK253 BK254 HB
                  (try clear hb)
                  (try clear hb2)
                  (try clear hk)
                  (try clear hi)
                  refine hK.out _ _ ⟨(blk_cell BK247.out 0).trans rfl, (blk_cell BK247.out 1).trans rfl, (blk_cell BK247.out 2).trans rfl, (zc HB.out hw250_0), (zc HB.out hw250_1), (zc HB.out hw250_2)⟩ (fun hHeld => ?_)
                  clear hK K
                  refine norm_ za ?_
                  exact norm_ zp (hJ1_7_8 (gb253, gb254) _ ⟨hHeld, (zq BK241.out), (zq BK247.out), (zq BK253.out), (zq BK254.out), GW253.out, GE253.out, NB241_253.out, NB253_241.out, NB247_253.out, NB253_247.out, NB254_253.out, NB253_254.out, GW254.out, GE254.out, NB241_254.out, NB254_241.out, NB247_254.out, NB254_247.out, (zb4 HB.out GE241.out GE247.out GE253.out GE254.out)⟩)
              · skip
                rintro gb254 w25 ⟨hS_, h0_, h1_, h2_, h3_, h4_, h5_, h6_, h7_, h8_, h9_⟩
                refine up10 (show w25.heap[gb241]? = some (.cells #[.int .i64 0, .int .i64 0] 43 (0, 0)) from h0_) (show w25.heap[gb247]? = some (.cells #[.int .i16 ((rd_T33 l0 x23_1).f0), .int .i16 ((rd_T33 l0 x23_1).f1), .int .i16 ((rd_T33 l0 x23_1).f2)] 33 (0, 0)) from h1_) (show w25.heap[gb254]? = some (.cells #[.int .i64 0, .int .i64 0] 43 (0, 0)) from h2_) (show w.heap.size ≤ gb254 from h3_) (show w.heap.size ≤ gb254 from h4_) (show gb241 ≠ gb254 from h5_) (show gb254 ≠ gb241 from h6_) (show gb247 ≠ gb254 from h7_) (show gb254 ≠ gb247 from h8_) (show Below w.heap.size w w25 from h9_) ?_
                clear BK241 BK247 HB h0_ h1_ h2_ h3_ h4_ h5_ h6_ h7_ h8_ h9_
                intro BK241 BK247 BK254 GW254 GE254 NB241_254 NB254_241 NB247_254 NB254_247 HB
                have hHeld : w25.cell? ⟨gb247, 0, none⟩ = some (.int .i16 ((rd_T33 l0 x23_1).f0)) ∧ w25.cell? ⟨gb247, 1, none⟩ = some (.int .i16 ((rd_T33 l0 x23_1).f1)) ∧ w25.cell? ⟨gb247, 2, none⟩ = some (.int .i16 ((rd_T33 l0 x23_1).f2)) ∧ w25.cell? (ad246.add ((x6_1).toNat * 3)) = some (.int .i16 ((rd_T33 l0 x6_1).f0)) ∧ w25.cell? ⟨(ad246.add ((x6_1).toNat * 3)).block, (ad246.add ((x6_1).toNat * 3)).off + 1, none⟩ = some (.int .i16 ((rd_T33 l0 x6_1).f1)) ∧ w25.cell? ⟨(ad246.add ((x6_1).toNat * 3)).block, (ad246.add ((x6_1).toNat * 3)).off + 2, none⟩ = some (.int .i16 ((rd_T33 l0 x6_1).f2)) := hS_
                refine norm_ (a' := ?_) ?_ ?_
                rotate_left
                · simp only [putAll, Act.put, List.setIfInBounds_toArray, List.set_cons_zero, List.set_cons_succ]
                  rfl
                refine two_ (i := 6) (j := 7) (Ni := some 34) (Nj := some 9) #[true, true, true, true, true, true, true, false, true, false, false] #[true, true, true, true, true, true, false, true, true, false, false] rfl rfl rfl rfl (two_of HT_.out (by kernel_rfl)) (by decide) (by decide) (fun K hK => ?_) (fun K hK => ?_)
                · skip
                  refine goes_ Try.func43 (by kernel_rfl) rfl #[.agg #[.int .i16 ((rd_T33 l0 x6_1).f0), .int .i16 ((rd_T33 l0 x6_1).f1), .int .i16 ((rd_T33 l0 x6_1).f2)]] (by rfl) rfl rfl zr ?_
                  with_reducible refine (impl_Yarn_count.calls k1 ((rd_T33 l0 x6_1).f0) ((rd_T33 l0 x6_1).f1) ((rd_T33 l0 x6_1).f2) t251 t252 _ A16.out).mono ?_
                  rintro e w26 ⟨rfl, hb⟩
                  refine ⟨_, rfl, ?_⟩
                  refine up4 (blk_below (g := gb241) (o := .cells #[.int .i64 0, .int .i64 0] 43 (0, 0)) (zq BK241.out) hb) (blk_below (g := gb247) (o := .cells #[.int .i16 ((rd_T33 l0 x23_1).f0), .int .i16 ((rd_T33 l0 x23_1).f1), .int .i16 ((rd_T33 l0 x23_1).f2)] 33 (0, 0)) (zq BK247.out) hb) (blk_below (g := gb254) (o := .cells #[.int .i64 0, .int .i64 0] 43 (0, 0)) (zq BK254.out) hb) (below_step (zb3 HB.out GE241.out GE247.out GE254.out) hb) ?_
                  clear BK241 BK247 BK254 HB
                  intro BK241 BK247 BK254 HB
                  (try clear hb)
                  (try clear hb2)
                  (try clear hk)
                  (try clear hi)
                  refine hK.out _ _ ⟨(blk_cell BK247.out 0).trans rfl, (blk_cell BK247.out 1).trans rfl, (blk_cell BK247.out 2).trans rfl, (zc HB.out hw250_0), (zc HB.out hw250_1), (zc HB.out hw250_2)⟩ (fun hHeld => ?_)
                  clear hK K
                  refine norm_ za ?_
                  exact norm_ zp (hJ1_6_8 (gb254) _ ⟨hHeld, (zq BK241.out), (zq BK247.out), (zq BK254.out), GW254.out, GE254.out, NB241_254.out, NB254_241.out, NB247_254.out, NB254_247.out, (zb3 HB.out GE241.out GE247.out GE254.out)⟩)
                · skip
                  refine box_step ?hg (N := 9) ?hd (cs := #[.int .i64 0, .int .i64 0]) (t := 43) ?hr ?_; (case hd => rfl); (case hg => rfl); (case hr => first | (go_simp; done) | (go_simp; rfl))
                  intro gb253 hg w26 hbox hb
                  refine up13 (blk_below (g := gb241) (o := .cells #[.int .i64 0, .int .i64 0] 43 (0, 0)) (zq BK241.out) hb) (blk_below (g := gb247) (o := .cells #[.int .i16 ((rd_T33 l0 x23_1).f0), .int .i16 ((rd_T33 l0 x23_1).f1), .int .i16 ((rd_T33 l0 x23_1).f2)] 33 (0, 0)) (zq BK247.out) hb) (blk_below (g := gb254) (o := .cells #[.int .i64 0, .int .i64 0] 43 (0, 0)) (zq BK254.out) hb) (below_step (zb3 HB.out GE241.out GE247.out GE254.out) hb) (hbox) ((by rw [hg]; exact (below_size (zb3 HB.out GE241.out GE247.out GE254.out)) : w.heap.size ≤ gb253)) ((by rw [hg]; exact (below_size (zb3 HB.out GE241.out GE247.out GE254.out)) : w.heap.size ≤ gb253)) ((by rw [hg]; exact Nat.ne_of_lt (blk_lt (g := gb241) (o := .cells #[.int .i64 0, .int .i64 0] 43 (0, 0)) (zq BK241.out)) : gb241 ≠ gb253)) ((by rw [hg]; exact Nat.ne_of_gt (blk_lt (g := gb241) (o := .cells #[.int .i64 0, .int .i64 0] 43 (0, 0)) (zq BK241.out)) : gb253 ≠ gb241)) ((by rw [hg]; exact Nat.ne_of_lt (blk_lt (g := gb247) (o := .cells #[.int .i16 ((rd_T33 l0 x23_1).f0), .int .i16 ((rd_T33 l0 x23_1).f1), .int .i16 ((rd_T33 l0 x23_1).f2)] 33 (0, 0)) (zq BK247.out)) : gb247 ≠ gb253)) ((by rw [hg]; exact Nat.ne_of_gt (blk_lt (g := gb247) (o := .cells #[.int .i16 ((rd_T33 l0 x23_1).f0), .int .i16 ((rd_T33 l0 x23_1).f1), .int .i16 ((rd_T33 l0 x23_1).f2)] 33 (0, 0)) (zq BK247.out)) : gb253 ≠ gb247)) ((by rw [hg]; exact Nat.ne_of_lt (blk_lt (g := gb254) (o := .cells #[.int .i64 0, .int .i64 0] 43 (0, 0)) (zq BK254.out)) : gb254 ≠ gb253)) ((by rw [hg]; exact Nat.ne_of_gt (blk_lt (g := gb254) (o := .cells #[.int .i64 0, .int .i64 0] 43 (0, 0)) (zq BK254.out)) : gb253 ≠ gb254)) ?_
                  clear BK241 BK247 BK254 HB
                  intro BK241 BK247 BK254 HB BK253 GW253 GE253 NB241_253 NB253_241 NB247_253 NB253_247 NB254_253 NB253_254
                  clear hb hbox hg
                  refine hK.out _ _ ⟨(blk_cell BK247.out 0).trans rfl, (blk_cell BK247.out 1).trans rfl, (blk_cell BK247.out 2).trans rfl, (zc HB.out hw250_0), (zc HB.out hw250_1), (zc HB.out hw250_2)⟩ (fun hHeld => ?_)
                  clear hK K
                  refine norm_ za ?_
                  exact norm_ zp (hJ1_7_8 (gb253, gb254) _ ⟨hHeld, (zq BK241.out), (zq BK247.out), (zq BK253.out), (zq BK254.out), GW253.out, GE253.out, NB241_253.out, NB253_241.out, NB247_253.out, NB253_247.out, NB254_253.out, NB253_254.out, GW254.out, GE254.out, NB241_254.out, NB254_241.out, NB247_254.out, NB254_247.out, (zb4 HB.out GE241.out GE247.out GE254.out GE253.out)⟩)
            · skip
              rintro gb253 w25 ⟨hS_, h0_, h1_, h2_, h3_, h4_, h5_, h6_, h7_, h8_, h9_⟩
              refine up10 (show w25.heap[gb241]? = some (.cells #[.int .i64 0, .int .i64 0] 43 (0, 0)) from h0_) (show w25.heap[gb247]? = some (.cells #[.int .i16 ((rd_T33 l0 x23_1).f0), .int .i16 ((rd_T33 l0 x23_1).f1), .int .i16 ((rd_T33 l0 x23_1).f2)] 33 (0, 0)) from h1_) (show w25.heap[gb253]? = some (.cells #[.int .i64 0, .int .i64 0] 43 (0, 0)) from h2_) (show w.heap.size ≤ gb253 from h3_) (show w.heap.size ≤ gb253 from h4_) (show gb241 ≠ gb253 from h5_) (show gb253 ≠ gb241 from h6_) (show gb247 ≠ gb253 from h7_) (show gb253 ≠ gb247 from h8_) (show Below w.heap.size w w25 from h9_) ?_
              clear BK241 BK247 HB h0_ h1_ h2_ h3_ h4_ h5_ h6_ h7_ h8_ h9_
              intro BK241 BK247 BK253 GW253 GE253 NB241_253 NB253_241 NB247_253 NB253_247 HB
              have hHeld : w25.cell? ⟨gb247, 0, none⟩ = some (.int .i16 ((rd_T33 l0 x23_1).f0)) ∧ w25.cell? ⟨gb247, 1, none⟩ = some (.int .i16 ((rd_T33 l0 x23_1).f1)) ∧ w25.cell? ⟨gb247, 2, none⟩ = some (.int .i16 ((rd_T33 l0 x23_1).f2)) ∧ w25.cell? (ad246.add ((x6_1).toNat * 3)) = some (.int .i16 ((rd_T33 l0 x6_1).f0)) ∧ w25.cell? ⟨(ad246.add ((x6_1).toNat * 3)).block, (ad246.add ((x6_1).toNat * 3)).off + 1, none⟩ = some (.int .i16 ((rd_T33 l0 x6_1).f1)) ∧ w25.cell? ⟨(ad246.add ((x6_1).toNat * 3)).block, (ad246.add ((x6_1).toNat * 3)).off + 2, none⟩ = some (.int .i16 ((rd_T33 l0 x6_1).f2)) := hS_
              refine norm_ (a' := ?_) ?_ ?_
              rotate_left
              · simp only [putAll, Act.put, List.setIfInBounds_toArray, List.set_cons_zero, List.set_cons_succ]
                rfl
              refine two_ (i := 6) (j := 8) (Ni := some 34) (Nj := some 10) #[true, true, true, true, true, true, true, true, false, false, false] #[true, true, true, true, true, true, false, true, true, false, false] rfl rfl rfl rfl (two_of HT_.out (by kernel_rfl)) (by decide) (by decide) (fun K hK => ?_) (fun K hK => ?_)
              · skip
                refine goes_ Try.func43 (by kernel_rfl) rfl #[.agg #[.int .i16 ((rd_T33 l0 x6_1).f0), .int .i16 ((rd_T33 l0 x6_1).f1), .int .i16 ((rd_T33 l0 x6_1).f2)]] (by rfl) rfl rfl zr ?_
                with_reducible refine (impl_Yarn_count.calls k1 ((rd_T33 l0 x6_1).f0) ((rd_T33 l0 x6_1).f1) ((rd_T33 l0 x6_1).f2) t251 t252 _ A16.out).mono ?_
                rintro e w26 ⟨rfl, hb⟩
                refine ⟨_, rfl, ?_⟩
                refine up4 (blk_below (g := gb241) (o := .cells #[.int .i64 0, .int .i64 0] 43 (0, 0)) (zq BK241.out) hb) (blk_below (g := gb247) (o := .cells #[.int .i16 ((rd_T33 l0 x23_1).f0), .int .i16 ((rd_T33 l0 x23_1).f1), .int .i16 ((rd_T33 l0 x23_1).f2)] 33 (0, 0)) (zq BK247.out) hb) (blk_below (g := gb253) (o := .cells #[.int .i64 0, .int .i64 0] 43 (0, 0)) (zq BK253.out) hb) (below_step (zb3 HB.out GE241.out GE247.out GE253.out) hb) ?_
                clear BK241 BK247 BK253 HB
                intro BK241 BK247 BK253 HB
                (try clear hb)
                (try clear hb2)
                (try clear hk)
                (try clear hi)
                refine hK.out _ _ ⟨(blk_cell BK247.out 0).trans rfl, (blk_cell BK247.out 1).trans rfl, (blk_cell BK247.out 2).trans rfl, (zc HB.out hw250_0), (zc HB.out hw250_1), (zc HB.out hw250_2)⟩ (fun hHeld => ?_)
                clear hK K
                refine norm_ za ?_
                exact norm_ zp (hJ1_6_7 (gb253) _ ⟨hHeld, (zq BK241.out), (zq BK247.out), (zq BK253.out), GW253.out, GE253.out, NB241_253.out, NB253_241.out, NB247_253.out, NB253_247.out, (zb3 HB.out GE241.out GE247.out GE253.out)⟩)
              · skip
                refine box_step ?hg (N := 10) ?hd (cs := #[.int .i64 0, .int .i64 0]) (t := 43) ?hr ?_; (case hd => rfl); (case hg => rfl); (case hr => first | (go_simp; done) | (go_simp; rfl))
                intro gb254 hg w26 hbox hb
                refine up13 (blk_below (g := gb241) (o := .cells #[.int .i64 0, .int .i64 0] 43 (0, 0)) (zq BK241.out) hb) (blk_below (g := gb247) (o := .cells #[.int .i16 ((rd_T33 l0 x23_1).f0), .int .i16 ((rd_T33 l0 x23_1).f1), .int .i16 ((rd_T33 l0 x23_1).f2)] 33 (0, 0)) (zq BK247.out) hb) (blk_below (g := gb253) (o := .cells #[.int .i64 0, .int .i64 0] 43 (0, 0)) (zq BK253.out) hb) (below_step (zb3 HB.out GE241.out GE247.out GE253.out) hb) (hbox) ((by rw [hg]; exact (below_size (zb3 HB.out GE241.out GE247.out GE253.out)) : w.heap.size ≤ gb254)) ((by rw [hg]; exact (below_size (zb3 HB.out GE241.out GE247.out GE253.out)) : w.heap.size ≤ gb254)) ((by rw [hg]; exact Nat.ne_of_lt (blk_lt (g := gb241) (o := .cells #[.int .i64 0, .int .i64 0] 43 (0, 0)) (zq BK241.out)) : gb241 ≠ gb254)) ((by rw [hg]; exact Nat.ne_of_gt (blk_lt (g := gb241) (o := .cells #[.int .i64 0, .int .i64 0] 43 (0, 0)) (zq BK241.out)) : gb254 ≠ gb241)) ((by rw [hg]; exact Nat.ne_of_lt (blk_lt (g := gb247) (o := .cells #[.int .i16 ((rd_T33 l0 x23_1).f0), .int .i16 ((rd_T33 l0 x23_1).f1), .int .i16 ((rd_T33 l0 x23_1).f2)] 33 (0, 0)) (zq BK247.out)) : gb247 ≠ gb254)) ((by rw [hg]; exact Nat.ne_of_gt (blk_lt (g := gb247) (o := .cells #[.int .i16 ((rd_T33 l0 x23_1).f0), .int .i16 ((rd_T33 l0 x23_1).f1), .int .i16 ((rd_T33 l0 x23_1).f2)] 33 (0, 0)) (zq BK247.out)) : gb254 ≠ gb247)) ((by rw [hg]; exact Nat.ne_of_lt (blk_lt (g := gb253) (o := .cells #[.int .i64 0, .int .i64 0] 43 (0, 0)) (zq BK253.out)) : gb253 ≠ gb254)) ((by rw [hg]; exact Nat.ne_of_gt (blk_lt (g := gb253) (o := .cells #[.int .i64 0, .int .i64 0] 43 (0, 0)) (zq BK253.out)) : gb254 ≠ gb253)) ?_
                clear BK241 BK247 BK253 HB
                intro BK241 BK247 BK253 HB BK254 GW254 GE254 NB241_254 NB254_241 NB247_254 NB254_247 NB253_254 NB254_253
                clear hb hbox hg
                refine hK.out _ _ ⟨(blk_cell BK247.out 0).trans rfl, (blk_cell BK247.out 1).trans rfl, (blk_cell BK247.out 2).trans rfl, (zc HB.out hw250_0), (zc HB.out hw250_1), (zc HB.out hw250_2)⟩ (fun hHeld => ?_)
                clear hK K
                refine norm_ za ?_
                exact norm_ zp (hJ1_7_8 (gb253, gb254) _ ⟨hHeld, (zq BK241.out), (zq BK247.out), (zq BK253.out), (zq BK254.out), GW253.out, GE253.out, NB241_253.out, NB253_241.out, NB247_253.out, NB253_247.out, NB254_253.out, NB253_254.out, GW254.out, GE254.out, NB241_254.out, NB254_241.out, NB247_254.out, NB254_247.out, (zb4 HB.out GE241.out GE247.out GE253.out GE254.out)⟩)
          · skip
            rintro _ w25 ⟨hS_, h0_, h1_, h2_⟩
            refine up3 (show w25.heap[gb241]? = some (.cells #[.int .i64 0, .int .i64 0] 43 (0, 0)) from h0_) (show w25.heap[gb247]? = some (.cells #[.int .i16 ((rd_T33 l0 x23_1).f0), .int .i16 ((rd_T33 l0 x23_1).f1), .int .i16 ((rd_T33 l0 x23_1).f2)] 33 (0, 0)) from h1_) (show Below w.heap.size w w25 from h2_) ?_
            clear BK241 BK247 HB h0_ h1_ h2_
            intro BK241 BK247 HB
            have hHeld : w25.cell? ⟨gb247, 0, none⟩ = some (.int .i16 ((rd_T33 l0 x23_1).f0)) ∧ w25.cell? ⟨gb247, 1, none⟩ = some (.int .i16 ((rd_T33 l0 x23_1).f1)) ∧ w25.cell? ⟨gb247, 2, none⟩ = some (.int .i16 ((rd_T33 l0 x23_1).f2)) ∧ w25.cell? (ad246.add ((x6_1).toNat * 3)) = some (.int .i16 ((rd_T33 l0 x6_1).f0)) ∧ w25.cell? ⟨(ad246.add ((x6_1).toNat * 3)).block, (ad246.add ((x6_1).toNat * 3)).off + 1, none⟩ = some (.int .i16 ((rd_T33 l0 x6_1).f1)) ∧ w25.cell? ⟨(ad246.add ((x6_1).toNat * 3)).block, (ad246.add ((x6_1).toNat * 3)).off + 2, none⟩ = some (.int .i16 ((rd_T33 l0 x6_1).f2)) := hS_
            refine norm_ (a' := ?_) ?_ ?_
            rotate_left
            · simp only [putAll, Act.put, List.setIfInBounds_toArray, List.set_cons_zero, List.set_cons_succ]
              rfl
            refine two_ (i := 7) (j := 8) (Ni := some 9) (Nj := some 10) #[true, true, true, true, true, true, true, true, false, false, false] #[true, true, true, true, true, true, true, false, true, false, false] rfl rfl rfl rfl (two_of HT_.out (by kernel_rfl)) (by decide) (by decide) (fun K hK => ?_) (fun K hK => ?_)
            · skip
              refine box_step ?hg (N := 9) ?hd (cs := #[.int .i64 0, .int .i64 0]) (t := 43) ?hr ?_; (case hd => rfl); (case hg => rfl); (case hr => first | (go_simp; done) | (go_simp; rfl))
              intro gb253 hg w26 hbox hb
              refine up10 (blk_below (g := gb241) (o := .cells #[.int .i64 0, .int .i64 0] 43 (0, 0)) (zq BK241.out) hb) (blk_below (g := gb247) (o := .cells #[.int .i16 ((rd_T33 l0 x23_1).f0), .int .i16 ((rd_T33 l0 x23_1).f1), .int .i16 ((rd_T33 l0 x23_1).f2)] 33 (0, 0)) (zq BK247.out) hb) (below_step (zb2 HB.out GE241.out GE247.out) hb) (hbox) ((by rw [hg]; exact (below_size (zb2 HB.out GE241.out GE247.out)) : w.heap.size ≤ gb253)) ((by rw [hg]; exact (below_size (zb2 HB.out GE241.out GE247.out)) : w.heap.size ≤ gb253)) ((by rw [hg]; exact Nat.ne_of_lt (blk_lt (g := gb241) (o := .cells #[.int .i64 0, .int .i64 0] 43 (0, 0)) (zq BK241.out)) : gb241 ≠ gb253)) ((by rw [hg]; exact Nat.ne_of_gt (blk_lt (g := gb241) (o := .cells #[.int .i64 0, .int .i64 0] 43 (0, 0)) (zq BK241.out)) : gb253 ≠ gb241)) ((by rw [hg]; exact Nat.ne_of_lt (blk_lt (g := gb247) (o := .cells #[.int .i16 ((rd_T33 l0 x23_1).f0), .int .i16 ((rd_T33 l0 x23_1).f1), .int .i16 ((rd_T33 l0 x23_1).f2)] 33 (0, 0)) (zq BK247.out)) : gb247 ≠ gb253)) ((by rw [hg]; exact Nat.ne_of_gt (blk_lt (g := gb247) (o := .cells #[.int .i16 ((rd_T33 l0 x23_1).f0), .int .i16 ((rd_T33 l0 x23_1).f1), .int .i16 ((rd_T33 l0 x23_1).f2)] 33 (0, 0)) (zq BK247.out)) : gb253 ≠ gb247)) ?_
              clear BK241 BK247 HB
              intro BK241 BK247 HB BK253 GW253 GE253 NB241_253 NB253_241 NB247_253 NB253_247
              clear hb hbox hg
              refine hK.out _ _ ⟨(blk_cell BK247.out 0).trans rfl, (blk_cell BK247.out 1).trans rfl, (blk_cell BK247.out 2).trans rfl, (zc HB.out hw250_0), (zc HB.out hw250_1), (zc HB.out hw250_2)⟩ (fun hHeld => ?_)
              clear hK K
              refine norm_ za ?_
              exact norm_ zp (hJ1_6_7 (gb253) _ ⟨hHeld, (zq BK241.out), (zq BK247.out), (zq BK253.out), GW253.out, GE253.out, NB241_253.out, NB253_241.out, NB247_253.out, NB253_247.out, (zb3 HB.out GE241.out GE247.out GE253.out)⟩)
            · skip
              refine box_step ?hg (N := 10) ?hd (cs := #[.int .i64 0, .int .i64 0]) (t := 43) ?hr ?_; (case hd => rfl); (case hg => rfl); (case hr => first | (go_simp; done) | (go_simp; rfl))
              intro gb254 hg w26 hbox hb
              refine up10 (blk_below (g := gb241) (o := .cells #[.int .i64 0, .int .i64 0] 43 (0, 0)) (zq BK241.out) hb) (blk_below (g := gb247) (o := .cells #[.int .i16 ((rd_T33 l0 x23_1).f0), .int .i16 ((rd_T33 l0 x23_1).f1), .int .i16 ((rd_T33 l0 x23_1).f2)] 33 (0, 0)) (zq BK247.out) hb) (below_step (zb2 HB.out GE241.out GE247.out) hb) (hbox) ((by rw [hg]; exact (below_size (zb2 HB.out GE241.out GE247.out)) : w.heap.size ≤ gb254)) ((by rw [hg]; exact (below_size (zb2 HB.out GE241.out GE247.out)) : w.heap.size ≤ gb254)) ((by rw [hg]; exact Nat.ne_of_lt (blk_lt (g := gb241) (o := .cells #[.int .i64 0, .int .i64 0] 43 (0, 0)) (zq BK241.out)) : gb241 ≠ gb254)) ((by rw [hg]; exact Nat.ne_of_gt (blk_lt (g := gb241) (o := .cells #[.int .i64 0, .int .i64 0] 43 (0, 0)) (zq BK241.out)) : gb254 ≠ gb241)) ((by rw [hg]; exact Nat.ne_of_lt (blk_lt (g := gb247) (o := .cells #[.int .i16 ((rd_T33 l0 x23_1).f0), .int .i16 ((rd_T33 l0 x23_1).f1), .int .i16 ((rd_T33 l0 x23_1).f2)] 33 (0, 0)) (zq BK247.out)) : gb247 ≠ gb254)) ((by rw [hg]; exact Nat.ne_of_gt (blk_lt (g := gb247) (o := .cells #[.int .i16 ((rd_T33 l0 x23_1).f0), .int .i16 ((rd_T33 l0 x23_1).f1), .int .i16 ((rd_T33 l0 x23_1).f2)] 33 (0, 0)) (zq BK247.out)) : gb254 ≠ gb247)) ?_
              clear BK241 BK247 HB
              intro BK241 BK247 HB BK254 GW254 GE254 NB241_254 NB254_241 NB247_254 NB254_247
              clear hb hbox hg
              refine hK.out _ _ ⟨(blk_cell BK247.out 0).trans rfl, (blk_cell BK247.out 1).trans rfl, (blk_cell BK247.out 2).trans rfl, (zc HB.out hw250_0), (zc HB.out hw250_1), (zc HB.out hw250_2)⟩ (fun hHeld => ?_)
              clear hK K
              refine norm_ za ?_
              exact norm_ zp (hJ1_6_8 (gb254) _ ⟨hHeld, (zq BK241.out), (zq BK247.out), (zq BK254.out), GW254.out, GE254.out, NB241_254.out, NB254_241.out, NB247_254.out, NB254_247.out, (zb3 HB.out GE241.out GE247.out GE254.out)⟩)
        · skip
          rintro ⟨gb253, gb254⟩ w26 ⟨hS_, h0_, h1_, h2_, h3_, h4_, h5_, h6_, h7_, h8_, h9_, h10_, h11_, h12_, h13_, h14_, h15_, h16_, h17_, h18_⟩
          refine up19 (show w26.heap[gb241]? = some (.cells #[.int .i64 0, .int .i64 0] 43 (0, 0)) from h0_) (show w26.heap[gb247]? = some (.cells #[.int .i16 ((rd_T33 l0 x23_1).f0), .int .i16 ((rd_T33 l0 x23_1).f1), .int .i16 ((rd_T33 l0 x23_1).f2)] 33 (0, 0)) from h1_) (show w26.heap[gb253]? = some (.cells #[.int .i64 0, .int .i64 0] 43 (0, 0)) from h2_) (show w26.heap[gb254]? = some (.cells #[.int .i64 0, .int .i64 0] 43 (0, 0)) from h3_) (show w.heap.size ≤ gb253 from h4_) (show w.heap.size ≤ gb253 from h5_) (show gb241 ≠ gb253 from h6_) (show gb253 ≠ gb241 from h7_) (show gb247 ≠ gb253 from h8_) (show gb253 ≠ gb247 from h9_) (show gb254 ≠ gb253 from h10_) (show gb253 ≠ gb254 from h11_) (show w.heap.size ≤ gb254 from h12_) (show w.heap.size ≤ gb254 from h13_) (show gb241 ≠ gb254 from h14_) (show gb254 ≠ gb241 from h15_) (show gb247 ≠ gb254 from h16_) (show gb254 ≠ gb247 from h17_) (show Below w.heap.size w w26 from h18_) ?_
          clear BK241 BK247 HB h0_ h1_ h2_ h3_ h4_ h5_ h6_ h7_ h8_ h9_ h10_ h11_ h12_ h13_ h14_ h15_ h16_ h17_ h18_
          intro BK241 BK247 BK253 BK254 GW253 GE253 NB241_253 NB253_241 NB247_253 NB253_247 NB254_253 NB253_254 GW254 GE254 NB241_254 NB254_241 NB247_254 NB254_247 HB
          have hHeld : w26.cell? ⟨gb247, 0, none⟩ = some (.int .i16 ((rd_T33 l0 x23_1).f0)) ∧ w26.cell? ⟨gb247, 1, none⟩ = some (.int .i16 ((rd_T33 l0 x23_1).f1)) ∧ w26.cell? ⟨gb247, 2, none⟩ = some (.int .i16 ((rd_T33 l0 x23_1).f2)) ∧ w26.cell? (ad246.add ((x6_1).toNat * 3)) = some (.int .i16 ((rd_T33 l0 x6_1).f0)) ∧ w26.cell? ⟨(ad246.add ((x6_1).toNat * 3)).block, (ad246.add ((x6_1).toNat * 3)).off + 1, none⟩ = some (.int .i16 ((rd_T33 l0 x6_1).f1)) ∧ w26.cell? ⟨(ad246.add ((x6_1).toNat * 3)).block, (ad246.add ((x6_1).toNat * 3)).off + 2, none⟩ = some (.int .i16 ((rd_T33 l0 x6_1).f2)) := hS_
          refine norm_ (a' := ?_) ?_ ?_
          rotate_left
          · simp only [putAll, Act.put, List.setIfInBounds_toArray, List.set_cons_zero, List.set_cons_succ]
            rfl
          refine one_ (i := 6) (N := some 34) #[true, true, true, true, true, true, true, true, true, false, false] rfl rfl (one_of HT_.out (by kernel_rfl)) (by decide) (fun K hK => ?_)
          refine goes_ Try.func43 (by kernel_rfl) rfl #[.agg #[.int .i16 ((rd_T33 l0 x6_1).f0), .int .i16 ((rd_T33 l0 x6_1).f1), .int .i16 ((rd_T33 l0 x6_1).f2)]] (by rfl) rfl rfl zr ?_
          with_reducible refine (impl_Yarn_count.calls k1 ((rd_T33 l0 x6_1).f0) ((rd_T33 l0 x6_1).f1) ((rd_T33 l0 x6_1).f2) t251 t252 _ A16.out).mono ?_
          rintro e w27 ⟨rfl, hb⟩
          refine ⟨_, rfl, ?_⟩
          refine up5 (blk_below (g := gb241) (o := .cells #[.int .i64 0, .int .i64 0] 43 (0, 0)) (zq BK241.out) hb) (blk_below (g := gb247) (o := .cells #[.int .i16 ((rd_T33 l0 x23_1).f0), .int .i16 ((rd_T33 l0 x23_1).f1), .int .i16 ((rd_T33 l0 x23_1).f2)] 33 (0, 0)) (zq BK247.out) hb) (blk_below (g := gb253) (o := .cells #[.int .i64 0, .int .i64 0] 43 (0, 0)) (zq BK253.out) hb) (blk_below (g := gb254) (o := .cells #[.int .i64 0, .int .i64 0] 43 (0, 0)) (zq BK254.out) hb) (below_step (zb4 HB.out GE241.out GE247.out GE253.out GE254.out) hb) ?_
          clear BK241 BK247 BK253 BK254 HB
          intro BK241 BK247 BK253 BK254 HB
          (try clear hb)
          (try clear hb2)
          (try clear hk)
          (try clear hi)
          refine hK.out _ _ ⟨(blk_cell BK247.out 0).trans rfl, (blk_cell BK247.out 1).trans rfl, (blk_cell BK247.out 2).trans rfl, (zc HB.out hw250_0), (zc HB.out hw250_1), (zc HB.out hw250_2)⟩ (fun hHeld => ?_)
          clear hK K
          refine norm_ za ?_
          exact norm_ zp (hJ1_6_7_8 (gb253, gb254) _ ⟨hHeld, (zq BK241.out), (zq BK247.out), (zq BK253.out), (zq BK254.out), GW253.out, GE253.out, NB241_253.out, NB253_241.out, NB247_253.out, NB253_247.out, NB254_253.out, NB253_254.out, GW254.out, GE254.out, NB241_254.out, NB254_241.out, NB247_254.out, NB254_247.out, (zb4 HB.out GE241.out GE247.out GE253.out GE254.out)⟩)
      · skip
        rintro gb254 w26 ⟨hS_, h0_, h1_, h2_, h3_, h4_, h5_, h6_, h7_, h8_, h9_⟩
        refine up10 (show w26.heap[gb241]? = some (.cells #[.int .i64 0, .int .i64 0] 43 (0, 0)) from h0_) (show w26.heap[gb247]? = some (.cells #[.int .i16 ((rd_T33 l0 x23_1).f0), .int .i16 ((rd_T33 l0 x23_1).f1), .int .i16 ((rd_T33 l0 x23_1).f2)] 33 (0, 0)) from h1_) (show w26.heap[gb254]? = some (.cells #[.int .i64 0, .int .i64 0] 43 (0, 0)) from h2_) (show w.heap.size ≤ gb254 from h3_) (show w.heap.size ≤ gb254 from h4_) (show gb241 ≠ gb254 from h5_) (show gb254 ≠ gb241 from h6_) (show gb247 ≠ gb254 from h7_) (show gb254 ≠ gb247 from h8_) (show Below w.heap.size w w26 from h9_) ?_
        clear BK241 BK247 HB h0_ h1_ h2_ h3_ h4_ h5_ h6_ h7_ h8_ h9_
        intro BK241 BK247 BK254 GW254 GE254 NB241_254 NB254_241 NB247_254 NB254_247 HB
        have hHeld : w26.cell? ⟨gb247, 0, none⟩ = some (.int .i16 ((rd_T33 l0 x23_1).f0)) ∧ w26.cell? ⟨gb247, 1, none⟩ = some (.int .i16 ((rd_T33 l0 x23_1).f1)) ∧ w26.cell? ⟨gb247, 2, none⟩ = some (.int .i16 ((rd_T33 l0 x23_1).f2)) ∧ w26.cell? (ad246.add ((x6_1).toNat * 3)) = some (.int .i16 ((rd_T33 l0 x6_1).f0)) ∧ w26.cell? ⟨(ad246.add ((x6_1).toNat * 3)).block, (ad246.add ((x6_1).toNat * 3)).off + 1, none⟩ = some (.int .i16 ((rd_T33 l0 x6_1).f1)) ∧ w26.cell? ⟨(ad246.add ((x6_1).toNat * 3)).block, (ad246.add ((x6_1).toNat * 3)).off + 2, none⟩ = some (.int .i16 ((rd_T33 l0 x6_1).f2)) := hS_
        refine norm_ (a' := ?_) ?_ ?_
        rotate_left
        · simp only [putAll, Act.put, List.setIfInBounds_toArray, List.set_cons_zero, List.set_cons_succ]
          rfl
        refine one_ (i := 7) (N := some 9) #[true, true, true, true, true, true, true, true, true, false, false] rfl rfl (one_of HT_.out (by kernel_rfl)) (by decide) (fun K hK => ?_)
        refine box_step ?hg (N := 9) ?hd (cs := #[.int .i64 0, .int .i64 0]) (t := 43) ?hr ?_; (case hd => rfl); (case hg => rfl); (case hr => first | (go_simp; done) | (go_simp; rfl))
        intro gb253 hg w27 hbox hb
        refine up13 (blk_below (g := gb241) (o := .cells #[.int .i64 0, .int .i64 0] 43 (0, 0)) (zq BK241.out) hb) (blk_below (g := gb247) (o := .cells #[.int .i16 ((rd_T33 l0 x23_1).f0), .int .i16 ((rd_T33 l0 x23_1).f1), .int .i16 ((rd_T33 l0 x23_1).f2)] 33 (0, 0)) (zq BK247.out) hb) (blk_below (g := gb254) (o := .cells #[.int .i64 0, .int .i64 0] 43 (0, 0)) (zq BK254.out) hb) (below_step (zb3 HB.out GE241.out GE247.out GE254.out) hb) (hbox) ((by rw [hg]; exact (below_size (zb3 HB.out GE241.out GE247.out GE254.out)) : w.heap.size ≤ gb253)) ((by rw [hg]; exact (below_size (zb3 HB.out GE241.out GE247.out GE254.out)) : w.heap.size ≤ gb253)) ((by rw [hg]; exact Nat.ne_of_lt (blk_lt (g := gb241) (o := .cells #[.int .i64 0, .int .i64 0] 43 (0, 0)) (zq BK241.out)) : gb241 ≠ gb253)) ((by rw [hg]; exact Nat.ne_of_gt (blk_lt (g := gb241) (o := .cells #[.int .i64 0, .int .i64 0] 43 (0, 0)) (zq BK241.out)) : gb253 ≠ gb241)) ((by rw [hg]; exact Nat.ne_of_lt (blk_lt (g := gb247) (o := .cells #[.int .i16 ((rd_T33 l0 x23_1).f0), .int .i16 ((rd_T33 l0 x23_1).f1), .int .i16 ((rd_T33 l0 x23_1).f2)] 33 (0, 0)) (zq BK247.out)) : gb247 ≠ gb253)) ((by rw [hg]; exact Nat.ne_of_gt (blk_lt (g := gb247) (o := .cells #[.int .i16 ((rd_T33 l0 x23_1).f0), .int .i16 ((rd_T33 l0 x23_1).f1), .int .i16 ((rd_T33 l0 x23_1).f2)] 33 (0, 0)) (zq BK247.out)) : gb253 ≠ gb247)) ((by rw [hg]; exact Nat.ne_of_lt (blk_lt (g := gb254) (o := .cells #[.int .i64 0, .int .i64 0] 43 (0, 0)) (zq BK254.out)) : gb254 ≠ gb253)) ((by rw [hg]; exact Nat.ne_of_gt (blk_lt (g := gb254) (o := .cells #[.int .i64 0, .int .i64 0] 43 (0, 0)) (zq BK254.out)) : gb253 ≠ gb254)) ?_
        clear BK241 BK247 BK254 HB
        intro BK241 BK247 BK254 HB BK253 GW253 GE253 NB241_253 NB253_241 NB247_253 NB253_247 NB254_253 NB253_254
        clear hb hbox hg
        refine hK.out _ _ ⟨(blk_cell BK247.out 0).trans rfl, (blk_cell BK247.out 1).trans rfl, (blk_cell BK247.out 2).trans rfl, (zc HB.out hw250_0), (zc HB.out hw250_1), (zc HB.out hw250_2)⟩ (fun hHeld => ?_)
        clear hK K
        refine norm_ za ?_
        exact norm_ zp (hJ1_6_7_8 (gb253, gb254) _ ⟨hHeld, (zq BK241.out), (zq BK247.out), (zq BK253.out), (zq BK254.out), GW253.out, GE253.out, NB241_253.out, NB253_241.out, NB247_253.out, NB253_247.out, NB254_253.out, NB253_254.out, GW254.out, GE254.out, NB241_254.out, NB254_241.out, NB247_254.out, NB254_247.out, (zb4 HB.out GE241.out GE247.out GE254.out GE253.out)⟩)
    · skip
      rintro gb253 w26 ⟨hS_, h0_, h1_, h2_, h3_, h4_, h5_, h6_, h7_, h8_, h9_⟩
      refine up10 (show w26.heap[gb241]? = some (.cells #[.int .i64 0, .int .i64 0] 43 (0, 0)) from h0_) (show w26.heap[gb247]? = some (.cells #[.int .i16 ((rd_T33 l0 x23_1).f0), .int .i16 ((rd_T33 l0 x23_1).f1), .int .i16 ((rd_T33 l0 x23_1).f2)] 33 (0, 0)) from h1_) (show w26.heap[gb253]? = some (.cells #[.int .i64 0, .int .i64 0] 43 (0, 0)) from h2_) (show w.heap.size ≤ gb253 from h3_) (show w.heap.size ≤ gb253 from h4_) (show gb241 ≠ gb253 from h5_) (show gb253 ≠ gb241 from h6_) (show gb247 ≠ gb253 from h7_) (show gb253 ≠ gb247 from h8_) (show Below w.heap.size w w26 from h9_) ?_
      clear BK241 BK247 HB h0_ h1_ h2_ h3_ h4_ h5_ h6_ h7_ h8_ h9_
      intro BK241 BK247 BK253 GW253 GE253 NB241_253 NB253_241 NB247_253 NB253_247 HB
      have hHeld : w26.cell? ⟨gb247, 0, none⟩ = some (.int .i16 ((rd_T33 l0 x23_1).f0)) ∧ w26.cell? ⟨gb247, 1, none⟩ = some (.int .i16 ((rd_T33 l0 x23_1).f1)) ∧ w26.cell? ⟨gb247, 2, none⟩ = some (.int .i16 ((rd_T33 l0 x23_1).f2)) ∧ w26.cell? (ad246.add ((x6_1).toNat * 3)) = some (.int .i16 ((rd_T33 l0 x6_1).f0)) ∧ w26.cell? ⟨(ad246.add ((x6_1).toNat * 3)).block, (ad246.add ((x6_1).toNat * 3)).off + 1, none⟩ = some (.int .i16 ((rd_T33 l0 x6_1).f1)) ∧ w26.cell? ⟨(ad246.add ((x6_1).toNat * 3)).block, (ad246.add ((x6_1).toNat * 3)).off + 2, none⟩ = some (.int .i16 ((rd_T33 l0 x6_1).f2)) := hS_
      refine norm_ (a' := ?_) ?_ ?_
      rotate_left
      · simp only [putAll, Act.put, List.setIfInBounds_toArray, List.set_cons_zero, List.set_cons_succ]
        rfl
      refine one_ (i := 8) (N := some 10) #[true, true, true, true, true, true, true, true, true, false, false] rfl rfl (one_of HT_.out (by kernel_rfl)) (by decide) (fun K hK => ?_)
      refine box_step ?hg (N := 10) ?hd (cs := #[.int .i64 0, .int .i64 0]) (t := 43) ?hr ?_; (case hd => rfl); (case hg => rfl); (case hr => first | (go_simp; done) | (go_simp; rfl))
      intro gb254 hg w27 hbox hb
      refine up13 (blk_below (g := gb241) (o := .cells #[.int .i64 0, .int .i64 0] 43 (0, 0)) (zq BK241.out) hb) (blk_below (g := gb247) (o := .cells #[.int .i16 ((rd_T33 l0 x23_1).f0), .int .i16 ((rd_T33 l0 x23_1).f1), .int .i16 ((rd_T33 l0 x23_1).f2)] 33 (0, 0)) (zq BK247.out) hb) (blk_below (g := gb253) (o := .cells #[.int .i64 0, .int .i64 0] 43 (0, 0)) (zq BK253.out) hb) (below_step (zb3 HB.out GE241.out GE247.out GE253.out) hb) (hbox) ((by rw [hg]; exact (below_size (zb3 HB.out GE241.out GE247.out GE253.out)) : w.heap.size ≤ gb254)) ((by rw [hg]; exact (below_size (zb3 HB.out GE241.out GE247.out GE253.out)) : w.heap.size ≤ gb254)) ((by rw [hg]; exact Nat.ne_of_lt (blk_lt (g := gb241) (o := .cells #[.int .i64 0, .int .i64 0] 43 (0, 0)) (zq BK241.out)) : gb241 ≠ gb254)) ((by rw [hg]; exact Nat.ne_of_gt (blk_lt (g := gb241) (o := .cells #[.int .i64 0, .int .i64 0] 43 (0, 0)) (zq BK241.out)) : gb254 ≠ gb241)) ((by rw [hg]; exact Nat.ne_of_lt (blk_lt (g := gb247) (o := .cells #[.int .i16 ((rd_T33 l0 x23_1).f0), .int .i16 ((rd_T33 l0 x23_1).f1), .int .i16 ((rd_T33 l0 x23_1).f2)] 33 (0, 0)) (zq BK247.out)) : gb247 ≠ gb254)) ((by rw [hg]; exact Nat.ne_of_gt (blk_lt (g := gb247) (o := .cells #[.int .i16 ((rd_T33 l0 x23_1).f0), .int .i16 ((rd_T33 l0 x23_1).f1), .int .i16 ((rd_T33 l0 x23_1).f2)] 33 (0, 0)) (zq BK247.out)) : gb254 ≠ gb247)) ((by rw [hg]; exact Nat.ne_of_lt (blk_lt (g := gb253) (o := .cells #[.int .i64 0, .int .i64 0] 43 (0, 0)) (zq BK253.out)) : gb253 ≠ gb254)) ((by rw [hg]; exact Nat.ne_of_gt (blk_lt (g := gb253) (o := .cells #[.int .i64 0, .int .i64 0] 43 (0, 0)) (zq BK253.out)) : gb254 ≠ gb253)) ?_
      clear BK241 BK247 BK253 HB
      intro BK241 BK247 BK253 HB BK254 GW254 GE254 NB241_254 NB254_241 NB247_254 NB254_247 NB253_254 NB254_253
      clear hb hbox hg
      refine hK.out _ _ ⟨(blk_cell BK247.out 0).trans rfl, (blk_cell BK247.out 1).trans rfl, (blk_cell BK247.out 2).trans rfl, (zc HB.out hw250_0), (zc HB.out hw250_1), (zc HB.out hw250_2)⟩ (fun hHeld => ?_)
      clear hK K
      refine norm_ za ?_
      exact norm_ zp (hJ1_6_7_8 (gb253, gb254) _ ⟨hHeld, (zq BK241.out), (zq BK247.out), (zq BK253.out), (zq BK254.out), GW253.out, GE253.out, NB241_253.out, NB253_241.out, NB247_253.out, NB253_247.out, NB254_253.out, NB253_254.out, GW254.out, GE254.out, NB241_254.out, NB254_241.out, NB247_254.out, NB254_247.out, (zb4 HB.out GE241.out GE247.out GE253.out GE254.out)⟩)
  rintro ⟨gb253, gb254⟩ w27 ⟨hS_, h0_, h1_, h2_, h3_, h4_, h5_, h6_, h7_, h8_, h9_, h10_, h11_, h12_, h13_, h14_, h15_, h16_, h17_, h18_⟩
  refine up19 (show w27.heap[gb241]? = some (.cells #[.int .i64 0, .int .i64 0] 43 (0, 0)) from h0_) (show w27.heap[gb247]? = some (.cells #[.int .i16 ((rd_T33 l0 x23_1).f0), .int .i16 ((rd_T33 l0 x23_1).f1), .int .i16 ((rd_T33 l0 x23_1).f2)] 33 (0, 0)) from h1_) (show w27.heap[gb253]? = some (.cells #[.int .i64 0, .int .i64 0] 43 (0, 0)) from h2_) (show w27.heap[gb254]? = some (.cells #[.int .i64 0, .int .i64 0] 43 (0, 0)) from h3_) (show w.heap.size ≤ gb253 from h4_) (show w.heap.size ≤ gb253 from h5_) (show gb241 ≠ gb253 from h6_) (show gb253 ≠ gb241 from h7_) (show gb247 ≠ gb253 from h8_) (show gb253 ≠ gb247 from h9_) (show gb254 ≠ gb253 from h10_) (show gb253 ≠ gb254 from h11_) (show w.heap.size ≤ gb254 from h12_) (show w.heap.size ≤ gb254 from h13_) (show gb241 ≠ gb254 from h14_) (show gb254 ≠ gb241 from h15_) (show gb247 ≠ gb254 from h16_) (show gb254 ≠ gb247 from h17_) (show Below w.heap.size w w27 from h18_) ?_
  clear BK241 BK247 HB h0_ h1_ h2_ h3_ h4_ h5_ h6_ h7_ h8_ h9_ h10_ h11_ h12_ h13_ h14_ h15_ h16_ h17_ h18_
  intro BK241 BK247 BK253 BK254 GW253 GE253 NB241_253 NB253_241 NB247_253 NB253_247 NB254_253 NB253_254 GW254 GE254 NB241_254 NB254_241 NB247_254 NB254_247 HB
  have hHeld : w27.cell? ⟨gb247, 0, none⟩ = some (.int .i16 ((rd_T33 l0 x23_1).f0)) ∧ w27.cell? ⟨gb247, 1, none⟩ = some (.int .i16 ((rd_T33 l0 x23_1).f1)) ∧ w27.cell? ⟨gb247, 2, none⟩ = some (.int .i16 ((rd_T33 l0 x23_1).f2)) ∧ w27.cell? (ad246.add ((x6_1).toNat * 3)) = some (.int .i16 ((rd_T33 l0 x6_1).f0)) ∧ w27.cell? ⟨(ad246.add ((x6_1).toNat * 3)).block, (ad246.add ((x6_1).toNat * 3)).off + 1, none⟩ = some (.int .i16 ((rd_T33 l0 x6_1).f1)) ∧ w27.cell? ⟨(ad246.add ((x6_1).toNat * 3)).block, (ad246.add ((x6_1).toNat * 3)).off + 2, none⟩ = some (.int .i16 ((rd_T33 l0 x6_1).f2)) := hS_
  refine norm_ (a' := ?_) ?_ ?_
  rotate_left
  · simp only [putAll, Act.put, List.setIfInBounds_toArray, List.set_cons_zero, List.set_cons_succ]
    rfl
  refine one_ (i := 9) (N := none) #[true, true, true, true, true, true, true, true, true, true, false] rfl rfl (one_of HT_.out (by kernel_rfl)) (by decide) (fun K hK => ?_)
  have hs28 : w27.cell? ⟨gb253, 0, none⟩ = some (.int .i64 0) := (blk_cell BK253.out 0).trans rfl
  have hfs28 := blk_frozen BK253.out 0
  have hns28_0 := NB241_253.out
  have hns28_1 := NB247_253.out
  have hns28_3 := NB254_253.out
  have hms28_0 := NB253_241.out
  have hms28_1 := NB253_247.out
  have hms28_3 := NB253_254.out
  have hs29 : w27.cell? ⟨gb253, 1, none⟩ = some (.int .i64 0) := (blk_cell BK253.out 1).trans rfl
  have hfs29 := blk_frozen BK253.out 1
  have hns29_0 := NB241_253.out
  have hns29_1 := NB247_253.out
  have hns29_3 := NB254_253.out
  have hms29_0 := NB253_241.out
  have hms29_1 := NB253_247.out
  have hms29_3 := NB253_254.out
  refine skip_ (w1 := ?_) (by rfl) rfl ?_ ?_
  rotate_left
  · go_simp
    rfl
  refine hK.out _ _ ⟨((cell_far (p := ⟨gb253, _, none⟩) NB247_253.out _).trans (((cell_far (p := ⟨gb253, _, none⟩) NB247_253.out _).trans (hHeld.1)))), ((cell_far (p := ⟨gb253, _, none⟩) NB247_253.out _).trans (((cell_far (p := ⟨gb253, _, none⟩) NB247_253.out _).trans (hHeld.2.1)))), ((cell_far (p := ⟨gb253, _, none⟩) NB247_253.out _).trans (((cell_far (p := ⟨gb253, _, none⟩) NB247_253.out _).trans (hHeld.2.2.1)))), ((cell_far (p := ⟨gb253, _, none⟩) (by first | exact Nat.ne_of_lt (Nat.lt_of_lt_of_le (by have := World.block_lt_of_cell? _ _ hw250_0; first | rwa [add_block] at this | exact this) GW253.out) | (rw [add_block]; exact Nat.ne_of_lt (Nat.lt_of_lt_of_le (by have := World.block_lt_of_cell? _ _ hw250_0; first | rwa [add_block] at this | exact this) GW253.out)) | (show (Addr.add _ _).block ≠ _; rw [add_block]; exact Nat.ne_of_lt (Nat.lt_of_lt_of_le (by have := World.block_lt_of_cell? _ _ hw250_0; first | rwa [add_block] at this | exact this) GW253.out)) | (dsimp only; exact Nat.ne_of_lt (Nat.lt_of_lt_of_le (by have := World.block_lt_of_cell? _ _ hw250_0; first | rwa [add_block] at this | exact this) GW253.out))) _).trans (((cell_far (p := ⟨gb253, _, none⟩) (by first | exact Nat.ne_of_lt (Nat.lt_of_lt_of_le (by have := World.block_lt_of_cell? _ _ hw250_0; first | rwa [add_block] at this | exact this) GW253.out) | (rw [add_block]; exact Nat.ne_of_lt (Nat.lt_of_lt_of_le (by have := World.block_lt_of_cell? _ _ hw250_0; first | rwa [add_block] at this | exact this) GW253.out)) | (show (Addr.add _ _).block ≠ _; rw [add_block]; exact Nat.ne_of_lt (Nat.lt_of_lt_of_le (by have := World.block_lt_of_cell? _ _ hw250_0; first | rwa [add_block] at this | exact this) GW253.out)) | (dsimp only; exact Nat.ne_of_lt (Nat.lt_of_lt_of_le (by have := World.block_lt_of_cell? _ _ hw250_0; first | rwa [add_block] at this | exact this) GW253.out))) _).trans (hHeld.2.2.2.1)))), ((cell_far (p := ⟨gb253, _, none⟩) (by first | exact Nat.ne_of_lt (Nat.lt_of_lt_of_le (by have := World.block_lt_of_cell? _ _ hw250_1; first | rwa [add_block] at this | exact this) GW253.out) | (rw [add_block]; exact Nat.ne_of_lt (Nat.lt_of_lt_of_le (by have := World.block_lt_of_cell? _ _ hw250_1; first | rwa [add_block] at this | exact this) GW253.out)) | (show (Addr.add _ _).block ≠ _; rw [add_block]; exact Nat.ne_of_lt (Nat.lt_of_lt_of_le (by have := World.block_lt_of_cell? _ _ hw250_1; first | rwa [add_block] at this | exact this) GW253.out)) | (dsimp only; exact Nat.ne_of_lt (Nat.lt_of_lt_of_le (by have := World.block_lt_of_cell? _ _ hw250_1; first | rwa [add_block] at this | exact this) GW253.out))) _).trans (((cell_far (p := ⟨gb253, _, none⟩) (by first | exact Nat.ne_of_lt (Nat.lt_of_lt_of_le (by have := World.block_lt_of_cell? _ _ hw250_1; first | rwa [add_block] at this | exact this) GW253.out) | (rw [add_block]; exact Nat.ne_of_lt (Nat.lt_of_lt_of_le (by have := World.block_lt_of_cell? _ _ hw250_1; first | rwa [add_block] at this | exact this) GW253.out)) | (show (Addr.add _ _).block ≠ _; rw [add_block]; exact Nat.ne_of_lt (Nat.lt_of_lt_of_le (by have := World.block_lt_of_cell? _ _ hw250_1; first | rwa [add_block] at this | exact this) GW253.out)) | (dsimp only; exact Nat.ne_of_lt (Nat.lt_of_lt_of_le (by have := World.block_lt_of_cell? _ _ hw250_1; first | rwa [add_block] at this | exact this) GW253.out))) _).trans (hHeld.2.2.2.2.1)))), ((cell_far (p := ⟨gb253, _, none⟩) (by first | exact Nat.ne_of_lt (Nat.lt_of_lt_of_le (by have := World.block_lt_of_cell? _ _ hw250_2; first | rwa [add_block] at this | exact this) GW253.out) | (rw [add_block]; exact Nat.ne_of_lt (Nat.lt_of_lt_of_le (by have := World.block_lt_of_cell? _ _ hw250_2; first | rwa [add_block] at this | exact this) GW253.out)) | (show (Addr.add _ _).block ≠ _; rw [add_block]; exact Nat.ne_of_lt (Nat.lt_of_lt_of_le (by have := World.block_lt_of_cell? _ _ hw250_2; first | rwa [add_block] at this | exact this) GW253.out)) | (dsimp only; exact Nat.ne_of_lt (Nat.lt_of_lt_of_le (by have := World.block_lt_of_cell? _ _ hw250_2; first | rwa [add_block] at this | exact this) GW253.out))) _).trans (((cell_far (p := ⟨gb253, _, none⟩) (by first | exact Nat.ne_of_lt (Nat.lt_of_lt_of_le (by have := World.block_lt_of_cell? _ _ hw250_2; first | rwa [add_block] at this | exact this) GW253.out) | (rw [add_block]; exact Nat.ne_of_lt (Nat.lt_of_lt_of_le (by have := World.block_lt_of_cell? _ _ hw250_2; first | rwa [add_block] at this | exact this) GW253.out)) | (show (Addr.add _ _).block ≠ _; rw [add_block]; exact Nat.ne_of_lt (Nat.lt_of_lt_of_le (by have := World.block_lt_of_cell? _ _ hw250_2; first | rwa [add_block] at this | exact this) GW253.out)) | (dsimp only; exact Nat.ne_of_lt (Nat.lt_of_lt_of_le (by have := World.block_lt_of_cell? _ _ hw250_2; first | rwa [add_block] at this | exact this) GW253.out))) _).trans (hHeld.2.2.2.2.2))))⟩ (fun hHeld => ?_)
  clear hK K
  refine one_ (i := 10) (N := none) #[true, true, true, true, true, true, true, true, true, true, true] rfl rfl (one_of HT_.out (by kernel_rfl)) (by decide) (fun K hK => ?_)
  have hs30 : w27.cell? ⟨gb254, 0, none⟩ = some (.int .i64 0) := (blk_cell BK254.out 0).trans rfl
  have hfs30 := blk_frozen BK254.out 0
  have hns30_0 := NB241_254.out
  have hns30_1 := NB247_254.out
  have hns30_2 := NB253_254.out
  have hms30_0 := NB254_241.out
  have hms30_1 := NB254_247.out
  have hms30_2 := NB254_253.out
  have hs31 : w27.cell? ⟨gb254, 1, none⟩ = some (.int .i64 0) := (blk_cell BK254.out 1).trans rfl
  have hfs31 := blk_frozen BK254.out 1
  have hns31_0 := NB241_254.out
  have hns31_1 := NB247_254.out
  have hns31_2 := NB253_254.out
  have hms31_0 := NB254_241.out
  have hms31_1 := NB254_247.out
  have hms31_2 := NB254_253.out
  refine skip_ (w1 := ?_) (by rfl) rfl ?_ ?_
  rotate_left
  · go_simp
    rfl
  refine hK.out _ _ ⟨((cell_far (p := ⟨gb254, _, none⟩) NB247_254.out _).trans (((cell_far (p := ⟨gb254, _, none⟩) NB247_254.out _).trans (hHeld.1)))), ((cell_far (p := ⟨gb254, _, none⟩) NB247_254.out _).trans (((cell_far (p := ⟨gb254, _, none⟩) NB247_254.out _).trans (hHeld.2.1)))), ((cell_far (p := ⟨gb254, _, none⟩) NB247_254.out _).trans (((cell_far (p := ⟨gb254, _, none⟩) NB247_254.out _).trans (hHeld.2.2.1)))), ((cell_far (p := ⟨gb254, _, none⟩) (by first | exact Nat.ne_of_lt (Nat.lt_of_lt_of_le (by have := World.block_lt_of_cell? _ _ hw250_0; first | rwa [add_block] at this | exact this) GW254.out) | (rw [add_block]; exact Nat.ne_of_lt (Nat.lt_of_lt_of_le (by have := World.block_lt_of_cell? _ _ hw250_0; first | rwa [add_block] at this | exact this) GW254.out)) | (show (Addr.add _ _).block ≠ _; rw [add_block]; exact Nat.ne_of_lt (Nat.lt_of_lt_of_le (by have := World.block_lt_of_cell? _ _ hw250_0; first | rwa [add_block] at this | exact this) GW254.out)) | (dsimp only; exact Nat.ne_of_lt (Nat.lt_of_lt_of_le (by have := World.block_lt_of_cell? _ _ hw250_0; first | rwa [add_block] at this | exact this) GW254.out))) _).trans (((cell_far (p := ⟨gb254, _, none⟩) (by first | exact Nat.ne_of_lt (Nat.lt_of_lt_of_le (by have := World.block_lt_of_cell? _ _ hw250_0; first | rwa [add_block] at this | exact this) GW254.out) | (rw [add_block]; exact Nat.ne_of_lt (Nat.lt_of_lt_of_le (by have := World.block_lt_of_cell? _ _ hw250_0; first | rwa [add_block] at this | exact this) GW254.out)) | (show (Addr.add _ _).block ≠ _; rw [add_block]; exact Nat.ne_of_lt (Nat.lt_of_lt_of_le (by have := World.block_lt_of_cell? _ _ hw250_0; first | rwa [add_block] at this | exact this) GW254.out)) | (dsimp only; exact Nat.ne_of_lt (Nat.lt_of_lt_of_le (by have := World.block_lt_of_cell? _ _ hw250_0; first | rwa [add_block] at this | exact this) GW254.out))) _).trans (hHeld.2.2.2.1)))), ((cell_far (p := ⟨gb254, _, none⟩) (by first | exact Nat.ne_of_lt (Nat.lt_of_lt_of_le (by have := World.block_lt_of_cell? _ _ hw250_1; first | rwa [add_block] at this | exact this) GW254.out) | (rw [add_block]; exact Nat.ne_of_lt (Nat.lt_of_lt_of_le (by have := World.block_lt_of_cell? _ _ hw250_1; first | rwa [add_block] at this | exact this) GW254.out)) | (show (Addr.add _ _).block ≠ _; rw [add_block]; exact Nat.ne_of_lt (Nat.lt_of_lt_of_le (by have := World.block_lt_of_cell? _ _ hw250_1; first | rwa [add_block] at this | exact this) GW254.out)) | (dsimp only; exact Nat.ne_of_lt (Nat.lt_of_lt_of_le (by have := World.block_lt_of_cell? _ _ hw250_1; first | rwa [add_block] at this | exact this) GW254.out))) _).trans (((cell_far (p := ⟨gb254, _, none⟩) (by first | exact Nat.ne_of_lt (Nat.lt_of_lt_of_le (by have := World.block_lt_of_cell? _ _ hw250_1; first | rwa [add_block] at this | exact this) GW254.out) | (rw [add_block]; exact Nat.ne_of_lt (Nat.lt_of_lt_of_le (by have := World.block_lt_of_cell? _ _ hw250_1; first | rwa [add_block] at this | exact this) GW254.out)) | (show (Addr.add _ _).block ≠ _; rw [add_block]; exact Nat.ne_of_lt (Nat.lt_of_lt_of_le (by have := World.block_lt_of_cell? _ _ hw250_1; first | rwa [add_block] at this | exact this) GW254.out)) | (dsimp only; exact Nat.ne_of_lt (Nat.lt_of_lt_of_le (by have := World.block_lt_of_cell? _ _ hw250_1; first | rwa [add_block] at this | exact this) GW254.out))) _).trans (hHeld.2.2.2.2.1)))), ((cell_far (p := ⟨gb254, _, none⟩) (by first | exact Nat.ne_of_lt (Nat.lt_of_lt_of_le (by have := World.block_lt_of_cell? _ _ hw250_2; first | rwa [add_block] at this | exact this) GW254.out) | (rw [add_block]; exact Nat.ne_of_lt (Nat.lt_of_lt_of_le (by have := World.block_lt_of_cell? _ _ hw250_2; first | rwa [add_block] at this | exact this) GW254.out)) | (show (Addr.add _ _).block ≠ _; rw [add_block]; exact Nat.ne_of_lt (Nat.lt_of_lt_of_le (by have := World.block_lt_of_cell? _ _ hw250_2; first | rwa [add_block] at this | exact this) GW254.out)) | (dsimp only; exact Nat.ne_of_lt (Nat.lt_of_lt_of_le (by have := World.block_lt_of_cell? _ _ hw250_2; first | rwa [add_block] at this | exact this) GW254.out))) _).trans (((cell_far (p := ⟨gb254, _, none⟩) (by first | exact Nat.ne_of_lt (Nat.lt_of_lt_of_le (by have := World.block_lt_of_cell? _ _ hw250_2; first | rwa [add_block] at this | exact this) GW254.out) | (rw [add_block]; exact Nat.ne_of_lt (Nat.lt_of_lt_of_le (by have := World.block_lt_of_cell? _ _ hw250_2; first | rwa [add_block] at this | exact this) GW254.out)) | (show (Addr.add _ _).block ≠ _; rw [add_block]; exact Nat.ne_of_lt (Nat.lt_of_lt_of_le (by have := World.block_lt_of_cell? _ _ hw250_2; first | rwa [add_block] at this | exact this) GW254.out)) | (dsimp only; exact Nat.ne_of_lt (Nat.lt_of_lt_of_le (by have := World.block_lt_of_cell? _ _ hw250_2; first | rwa [add_block] at this | exact this) GW254.out))) _).trans (hHeld.2.2.2.2.2))))⟩ (fun hHeld => ?_)
  clear hK K
  refine done_ (done_of HT_.out (by kernel_rfl)) ?_
  have hnb32 := NB253_241.out
  have hnc32 := NB241_253.out
  have hnb33 := NB253_247.out
  have hnc33 := NB247_253.out
  have hnb34 := NB253_254.out
  have hnc34 := NB254_253.out
  have hcz35_0 : w27.cell? ⟨gb253, 0, none⟩ = some (.int .i64 0) := (blk_cell BK253.out 0).trans rfl
  have hcz35_1 : w27.cell? ⟨gb253, 1, none⟩ = some (.int .i64 0) := (blk_cell BK253.out 1).trans rfl
  have hfz35_0 := blk_frozen BK253.out 0
  have hfz35_1 := blk_frozen BK253.out 1
  have hnb36 := NB254_241.out
  have hnc36 := NB241_254.out
  have hnb37 := NB254_247.out
  have hnc37 := NB247_254.out
  have hcz38_0 : w27.cell? ⟨gb254, 0, none⟩ = some (.int .i64 0) := (blk_cell BK254.out 0).trans rfl
  have hcz38_1 : w27.cell? ⟨gb254, 1, none⟩ = some (.int .i64 0) := (blk_cell BK254.out 1).trans rfl
  have hfz38_0 := blk_frozen BK254.out 0
  have hfz38_1 := blk_frozen BK254.out 1
  have H := H'.out
  clear H'
  by_cases c17 : (wrap64 (t248 * t252)) > (wrap64 (t251 * t249))
  · rw [if_pos c17] at H
    have c17b0 : decide ((wrap64 (t251 * t249)) < (wrap64 (t248 * t252))) = true := decide_eq_true c17
    clear c17
    have H' := Aside0.mk H
    clear H
    try go_wp2
    go_roundg k1
    case measure => have := HK1.out; omega
    case rel => exact ⟨(x23_1), (wrap64 (x23_1 + 1)), zx, zx, H', ⟨by have := HK1.out; omega⟩, ⟨by (with_reducible repeat (first | refine blk_drewN ?_ _ | refine blk_drew ?_ | refine blk_alloc ?_ _)); refine blk_far ?_ NB241_254.out _; (with_reducible repeat (first | refine blk_drewN ?_ _ | refine blk_drew ?_ | refine blk_alloc ?_ _)); refine blk_far ?_ NB241_254.out _; (with_reducible repeat (first | refine blk_drewN ?_ _ | refine blk_drew ?_ | refine blk_alloc ?_ _)); refine blk_far ?_ NB241_253.out _; (with_reducible repeat (first | refine blk_drewN ?_ _ | refine blk_drew ?_ | refine blk_alloc ?_ _)); refine blk_far ?_ NB241_253.out _; (with_reducible repeat (first | refine blk_drewN ?_ _ | refine blk_drew ?_ | refine blk_alloc ?_ _)); exact BK241.out⟩, ⟨zb4 HB.out GE241.out GE247.out GE253.out GE254.out⟩⟩
  rw [if_neg c17] at H
  have c17b0 : decide ((wrap64 (t251 * t249)) < (wrap64 (t248 * t252))) = false := decide_eq_false c17
  clear c17
  have H' := Aside0.mk H
  clear H
  try go_wp2
  go_roundg k1
  case measure => have := HK1.out; omega
  case rel => exact ⟨(x6_1), (wrap64 (x23_1 + 1)), zx, zx, H', ⟨by have := HK1.out; omega⟩, ⟨by (with_reducible repeat (first | refine blk_drewN ?_ _ | refine blk_drew ?_ | refine blk_alloc ?_ _)); refine blk_far ?_ NB241_254.out _; (with_reducible repeat (first | refine blk_drewN ?_ _ | refine blk_drew ?_ | refine blk_alloc ?_ _)); refine blk_far ?_ NB241_254.out _; (with_reducible repeat (first | refine blk_drewN ?_ _ | refine blk_drew ?_ | refine blk_alloc ?_ _)); refine blk_far ?_ NB241_253.out _; (with_reducible repeat (first | refine blk_drewN ?_ _ | refine blk_drew ?_ | refine blk_alloc ?_ _)); refine blk_far ?_ NB241_253.out _; (with_reducible repeat (first | refine blk_drewN ?_ _ | refine blk_drew ?_ | refine blk_alloc ?_ _)); exact BK241.out⟩, ⟨zb4 HB.out GE241.out GE247.out GE253.out GE254.out⟩⟩

end Go.Proofs.Ythfanjdbemoaaaa.XFnPlies
