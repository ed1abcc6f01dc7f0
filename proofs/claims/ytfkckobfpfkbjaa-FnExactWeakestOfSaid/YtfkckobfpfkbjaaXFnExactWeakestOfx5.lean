/- The functions that the law FnExactWeakestOf reaches: each as a Lean function, and that its call does what that function says; no conditions. -/
import Derived.Test.YtfkckobfpfkbjaaXFnExactWeakestOfx0
import Derived.Test.YtfkckobfpfkbjaaXFnExactWeakestOfx3
import Derived.Test.YtfkckobfpfkbjaaXFnExactWeakestOfx4
namespace Go.Proofs.Ytfkckobfpfkbjaa.XFnExactWeakestOf
open Go.RowKit Go.Proofs.YtfkckobfpfkbjaaW.PrintWords Go.Proofs.YtfkckobfpfkbjaaW.PrintLast Go.Proofs.YtfkckobfpfkbjaaW.PrintMore
attribute [local go_sem] max2_int min2_int max_two min_two max_three min_three max_four min_four   -- for this text's walks alone
set_option linter.unusedVariables false
set_option linter.unusedSimpArgs false

/-! ### impl_WeakestOf: function 29 -/
def impl_WeakestOf.l0 : Nat → List (S106) → Int → List (S106) → Int → Int → Option (Int × Int × Int × Int)
 | 0, _, _, _, _, _ => none
 | k + 1, x0, x6, x21, x22, x23 => if x23 < x22 then (if 0 ≤ x23 then (if x23 < (x21.length : Int) then ((impl_Yarn_count.f k ((rd_T106 x21 x23).f0) ((rd_T106 x21 x23).f1) ((rd_T106 x21 x23).f2)).bind fun bt153 => (if 0 ≤ x6 then (if x6 < (x0.length : Int) then ((impl_Yarn_count.f k ((rd_T106 x0 x6).f0) ((rd_T106 x0 x6).f1) ((rd_T106 x0 x6).f2)).bind fun bt156 => (if (wrap64 (bt153.1 * bt156.2)) > (wrap64 (bt156.1 * bt153.2)) then (impl_WeakestOf.l0 k x0 x23 x21 x22 (wrap64 (x23 + 1))) else (impl_WeakestOf.l0 k x0 x6 x21 x22 (wrap64 (x23 + 1))))) else (none)) else (none))) else (none)) else (none)) else (if 0 ≤ x6 then (if x6 < (x0.length : Int) then ((impl_Yarn_count.f k ((rd_T106 x0 x6).f0) ((rd_T106 x0 x6).f1) ((rd_T106 x0 x6).f2)).bind fun bt149 => (some (x6, bt149.1, bt149.2, 0))) else (none)) else (none))
def impl_WeakestOf.f (k : Nat) (l0 : List (S106)) : Option (Int × Int × Int × Int) := (impl_yarnsCode.f l0 true).bind fun t147 => (if t147 = 0 then (if (l0.length : Int) = 0 then (some (0, 0, 0, 6)) else (impl_WeakestOf.l0 k l0 0 l0 (l0.length : Int) 0)) else (some (0, 0, 0, t147)))
theorem impl_WeakestOf.mono_l : ∀ k, (∀ y0 y1 y2 y3 y4, LeO (impl_WeakestOf.l0 k y0 y1 y2 y3 y4) (impl_WeakestOf.l0 (k + 1) y0 y1 y2 y3 y4))
 | 0 => fun _ _ _ _ _ r h => by simp [impl_WeakestOf.l0] at h
 | k + 1 => by
  have ih0 := impl_WeakestOf.mono_l k
  ·intro y0 y1 y2 y3 y4
   unfold impl_WeakestOf.l0
   repeat' first
   | (with_reducible exact ih0 _ _ _ _ _)
   | (with_reducible exact impl_Yarn_count.mono _ _ _ _)
   | (with_reducible exact LeO.refl _)
   | (with_reducible exact LeO.none _)
   | (with_reducible refine LeO.ite ?_ ?_)
   | (with_reducible refine LeO.bind ?_ (fun _ => ?_))
   | (with_reducible refine allG_mono _ (fun _ => ?_))
   | (with_reducible refine idxG_mono _ (fun _ => ?_))
   | exact ih0 _ _ _ _ _
   | exact impl_Yarn_count.mono _ _ _ _
   | exact LeO.none _
   | refine LeO.ite ?_ ?_
   | refine LeO.bind ?_ (fun _ => ?_)
theorem impl_WeakestOf.mono : ∀ a0 k, LeO (impl_WeakestOf.f k a0) (impl_WeakestOf.f (k + 1) a0) := by
 intro a0 k
 have ih0 := impl_WeakestOf.mono_l k
 unfold impl_WeakestOf.f
 repeat' first
   | (with_reducible exact ih0 _ _ _ _ _)
   | (with_reducible exact impl_Yarn_count.mono _ _ _ _)
   | (with_reducible exact LeO.refl _)
   | (with_reducible exact LeO.none _)
   | (with_reducible refine LeO.ite ?_ ?_)
   | (with_reducible refine LeO.bind ?_ (fun _ => ?_))
   | (with_reducible refine allG_mono _ (fun _ => ?_))
   | (with_reducible refine idxG_mono _ (fun _ => ?_))
   | exact ih0 _ _ _ _ _
   | exact impl_Yarn_count.mono _ _ _ _
   | exact LeO.none _
   | refine LeO.ite ?_ ?_
   | refine LeO.bind ?_ (fun _ => ?_)
def impl_WeakestOf.T10 : Bool × List (List Nat × List Nat) := (true, [([], []), ([0], [0]), ([], []), ([], []), ([2, 3], [2, 3]), ([4], [4]), ([5, 1], [5]), ([], []), ([], []), ([7, 1, 6, 0, 1, 7, 8], [1, 7]), ([8, 6, 9, 0, 1, 2, 3, 4, 5, 6, 7, 8, 9], [6, 8])])
def impl_WeakestOf.B10 : List Nat := [0, 1, 0, 0, 12, 28, 63, 0, 0, 511, 1023]
theorem impl_WeakestOf.tab10 : rtab .any (opsOf Try.f29 10) = impl_WeakestOf.T10 := by kernel_rfl
theorem impl_WeakestOf.bits10 : waitsOk impl_WeakestOf.T10.2 impl_WeakestOf.B10 = true := by kernel_rfl
set_option maxHeartbeats 8000000 in
set_option maxRecDepth 100000 in
theorem impl_WeakestOf.calls (k : Nat) (A0 : Option Addr) (c0 : Nat) (l0 : List (S106)) (r1 : Int) (r2 : Int) (r3 : Int) (r4 : Int) (w : World) (hr0 : Kd.C k106 w A0 l0.length l0) (hc0 : l0.length ≤ c0) (h : impl_WeakestOf.f k l0 = some (r1, r2, r3, r4)) :
  Calls Try.prog 29 #[.slice A0 l0.length c0] w fun e w' => e = .returned (.tuple #[.int .i64 r1, .agg #[.int .i64 r2, .int .i64 r3], .int .i64 r4]) ∧ Below w.heap.size w w' := by
 have hu45 := Try.underlying45
 have hu106 := Try.underlying106
 have HR0 := Aside0.mk hr0
 have HC0 := Aside0.mk hc0
 clear hr0 hc0
 have HB := Aside0.mk (Below.refl w.heap.size w)
 have H : ((impl_yarnsCode.f l0 true).bind fun t147 => (if t147 = 0 then (if (l0.length : Int) = 0 then (some (0, 0, 0, 6)) else (impl_WeakestOf.l0 k l0 0 l0 (l0.length : Int) 0)) else (some (0, 0, 0, t147)))) = some (r1, r2, r3, r4) := h
 clear h
 replace H := Option.bind_eq_some_iff.mp H
 obtain ⟨t147, A20, H⟩ := H
 replace H : (if t147 = 0 then (if (l0.length : Int) = 0 then (some (0, 0, 0, 6)) else (impl_WeakestOf.l0 k l0 0 l0 (l0.length : Int) 0)) else (some (0, 0, 0, t147))) = some (r1, r2, r3, r4) := H
 have A2 := Aside0.mk A20
 clear A20
 by_cases c3 : t147 = 0
 ·rw [if_pos c3] at H
  have c3b0 : (t147 == 0) = true := beq_iff_eq.mpr c3
  have c3b1 : (t147 != 0) = false := bne_eq_false_iff_eq.mpr c3
  clear c3
  by_cases c4 : (l0.length : Int) = 0
  ·rw [if_pos c4] at H
   have c4b0 : ((l0.length : Int) == 0) = true := beq_iff_eq.mpr c4
   have c4b1 : ((l0.length : Int) != 0) = false := bne_eq_false_iff_eq.mpr c4
   clear c4
   simp only [Option.some.injEq, Prod.mk.injEq] at H
   obtain ⟨rfl, rfl, rfl, rfl⟩ := H
   go_enter Try.func29, Try.ntmps29
   go_wp2_with (first | ((with_reducible refine gate_dst (N := 3) rfl ?_); refine box_event ?hg (N := 3) ?hd (cs := #[.int .i64 0, .int .i64 0]) (t := 45) ?hr ?_; (case hd => rfl); (case hg => rfl); (case hr => first | (go_simp; done) | (go_simp; rfl)); intro gb146 hg w5 hbox hb; have n0_ := Aside0.mk (below_step HB.out hb); have n1_ := Aside0.mk (hbox); have n2_ := Aside0.mk ((by rw [hg]; exact (below_size HB.out) : w.heap.size ≤ gb146)); have n3_ := Aside0.mk ((by rw [hg]; exact (below_size HB.out) : w.heap.size ≤ gb146)); clear HB; have HB := n0_; have BK146 := n1_; have GW146 := n2_; have GE146 := n3_; clear n0_ n1_ n2_ n3_; clear hb hbox hg) | ((with_reducible refine gate_callee (f := 81) rfl ?_); refine goesL_ (some 12) rfl rfl Try.func81 (by kernel_rfl) rfl #[.slice A0 l0.length c0, .bool true] rfl (by (try simp only [List.map_toArray, List.map_cons, List.map_nil]); first | done | rfl | (simp only [List.length_drop, List.length_take]; rfl)) ?_; (with_reducible refine (impl_yarnsCode.calls _ _ l0 true t147 _ ?side1 ?side2 A2.out).mono ?_); (case side1 => repeat (first | exact (Kd.C_below HR0.out HB.out) | (with_reducible refine Kd.C_alloc ?_ _) | (with_reducible refine Kd.C_drewN ?_ _) | (with_reducible refine Kd.C_drew ?_))); (case side2 => exact HC0.out); rintro e w6 ⟨rfl, hb⟩; refine ⟨_, rfl, ?_⟩; have n0_ := Aside0.mk (blk_below (g := gb146) (o := .cells #[.int .i64 0, .int .i64 0] 45 (0, 0)) BK146.out hb); have n1_ := Aside0.mk (below_step HB.out hb); clear BK146; clear HB; have BK146 := n0_; have HB := n1_; clear n0_ n1_; (try clear hb); (try clear hb2); (try clear hk); (try clear hi); have hcz7_0 : w6.cell? ⟨gb146, 0, none⟩ = some (.int .i64 0) := (blk_cell BK146.out 0).trans rfl; have hcz7_1 : w6.cell? ⟨gb146, 1, none⟩ = some (.int .i64 0) := (blk_cell BK146.out 1).trans rfl; have hfz7_0 := blk_frozen BK146.out 0; have hfz7_1 := blk_frozen BK146.out 1))
   refine bodyPost_ret (results_list (rs := [.tmp 2, .cell 3 45, .tmp 4]) rfl (by simp) (.tmp (.cell gb146 45 #[.int .i64 0, .int .i64 0] (0, 0) _ rfl (by (with_reducible repeat (first | refine blk_drewN ?_ _ | refine blk_drew ?_ | refine blk_alloc ?_ _)); refine blk_put (cs := #[.int .i64 0, .int .i64 0]) ?_ 1 _ rfl; (with_reducible repeat (first | refine blk_drewN ?_ _ | refine blk_drew ?_ | refine blk_alloc ?_ _)); refine blk_put (cs := #[.int .i64 0, .int .i64 0]) ?_ 0 _ rfl; (with_reducible repeat (first | refine blk_drewN ?_ _ | refine blk_drew ?_ | refine blk_alloc ?_ _)); exact BK146.out) Try.underlying45 rfl (by kernel_rfl) (.tmp .nil)))) rfl ?_
   exact ⟨by first | rfl | (simp [errW_none, errW_some] <;> rfl) | (simp [*, errW_none, errW_some] <;> rfl), by repeat (first | (with_reducible first | exact HB.out | apply below_alloc | apply pw_below_drewN | apply below_drew1 | refine below_set ?_ GE146.out) | exact HB.out)⟩
  ·rw [if_neg c4] at H
   have c4b0 : ((l0.length : Int) == 0) = false := beq_eq_false_iff_ne.mpr c4
   have c4b1 : ((l0.length : Int) != 0) = true := bne_iff_ne.mpr c4
   have c4b2 : ¬ (l0 = []) := fun h_ => c4 (by rw [h_]; rfl)
   have H' := Aside0.mk H
   clear H
   go_enter Try.func29, Try.ntmps29
   go_wp2_with (first | ((with_reducible refine gate_dst (N := 3) rfl ?_); refine box_event ?hg (N := 3) ?hd (cs := #[.int .i64 0, .int .i64 0]) (t := 45) ?hr ?_; (case hd => rfl); (case hg => rfl); (case hr => first | (go_simp; done) | (go_simp; rfl)); intro gb146 hg w8 hbox hb; have n0_ := Aside0.mk (below_step HB.out hb); have n1_ := Aside0.mk (hbox); have n2_ := Aside0.mk ((by rw [hg]; exact (below_size HB.out) : w.heap.size ≤ gb146)); have n3_ := Aside0.mk ((by rw [hg]; exact (below_size HB.out) : w.heap.size ≤ gb146)); clear HB; have HB := n0_; have BK146 := n1_; have GW146 := n2_; have GE146 := n3_; clear n0_ n1_ n2_ n3_; clear hb hbox hg) | ((with_reducible refine gate_callee (f := 81) rfl ?_); refine goesL_ (some 12) rfl rfl Try.func81 (by kernel_rfl) rfl #[.slice A0 l0.length c0, .bool true] rfl (by (try simp only [List.map_toArray, List.map_cons, List.map_nil]); first | done | rfl | (simp only [List.length_drop, List.length_take]; rfl)) ?_; (with_reducible refine (impl_yarnsCode.calls _ _ l0 true t147 _ ?side1 ?side2 A2.out).mono ?_); (case side1 => repeat (first | exact (Kd.C_below HR0.out HB.out) | (with_reducible refine Kd.C_alloc ?_ _) | (with_reducible refine Kd.C_drewN ?_ _) | (with_reducible refine Kd.C_drew ?_))); (case side2 => exact HC0.out); rintro e w9 ⟨rfl, hb⟩; refine ⟨_, rfl, ?_⟩; have n0_ := Aside0.mk (blk_below (g := gb146) (o := .cells #[.int .i64 0, .int .i64 0] 45 (0, 0)) BK146.out hb); have n1_ := Aside0.mk (below_step HB.out hb); clear BK146; clear HB; have BK146 := n0_; have HB := n1_; clear n0_ n1_; (try clear hb); (try clear hb2); (try clear hk); (try clear hi)))
   go_loopg [6, 23] k (fun kq v6 v23 w' => ∃ (x6_1 : Int) (x23_1 : Int), v6 = .int .i64 x6_1 ∧ v23 = .int .i64 x23_1 ∧ Aside0 (impl_WeakestOf.l0 kq l0 x6_1 l0 (l0.length : Int) x23_1 = some (r1, r2, r3, r4)) ∧ Aside0 (kq ≤ k) ∧ Aside0 (w'.heap[gb146]? = some (.cells #[.int .i64 0, .int .i64 0] 45 (0, 0))) ∧ Aside0 (Below w.heap.size w w'))
   case atStart => exact ⟨(0), (0), (by first | rfl | (simp; done) | (simp [*]; done)), (by first | rfl | (simp; done) | (simp [*]; done)), H', ⟨Nat.le_refl _⟩, ⟨by (with_reducible repeat (first | refine blk_drewN ?_ _ | refine blk_drew ?_ | refine blk_alloc ?_ _)); exact BK146.out⟩, ⟨by repeat (first | (with_reducible first | exact HB.out | apply below_alloc | apply pw_below_drewN | apply below_drew1 | refine below_set ?_ GE146.out) | exact HB.out)⟩⟩
   case round =>
    clear H'
    try clear c2
    try clear p2
    try clear c3
    try clear c3b0
    try clear c3b1
    try clear c4
    try clear c4b0
    try clear c4b1
    try clear c4b2
    try clear c8
    try clear hcz7_0
    try clear hcz7_1
    try clear hfz7_0
    try clear hfz7_1
    obtain ⟨x6_1, x23_1, rfl, rfl, HA, HK1, BK146, HB⟩ := hrel
    cases gk with
    | zero => exact absurd HA.out (by simp [impl_WeakestOf.l0])
    | succ k1 =>
     have H := HA.out
     clear HA
     simp only [impl_WeakestOf.l0] at H
     by_cases c10 : x23_1 < (l0.length : Int)
     ·rw [if_pos c10] at H
      have c10b0 : decide (x23_1 < (l0.length : Int)) = true := decide_eq_true c10
      clear c10
      by_cases c11 : 0 ≤ x23_1
      ·rw [if_pos c11] at H
       have c11b0 : decide (0 ≤ x23_1) = true := decide_eq_true c11
       clear c11
       by_cases c12 : x23_1 < (l0.length : Int)
       ·rw [if_pos c12] at H
        have c12b0 : decide (x23_1 < (l0.length : Int)) = true := decide_eq_true c12
        clear c12
        replace H := Option.bind_eq_some_iff.mp H
        obtain ⟨⟨t153, t154⟩, A130, H⟩ := H
        replace H : (if 0 ≤ x6_1 then (if x6_1 < (l0.length : Int) then ((impl_Yarn_count.f k1 ((rd_T106 l0 x6_1).f0) ((rd_T106 l0 x6_1).f1) ((rd_T106 l0 x6_1).f2)).bind fun bt156 => (if (wrap64 (t153 * bt156.2)) > (wrap64 (bt156.1 * t154)) then (impl_WeakestOf.l0 k1 l0 x23_1 l0 (l0.length : Int) (wrap64 (x23_1 + 1))) else (impl_WeakestOf.l0 k1 l0 x6_1 l0 (l0.length : Int) (wrap64 (x23_1 + 1))))) else (none)) else (none)) = some (r1, r2, r3, r4) := H
        have A13 := Aside0.mk A130
        clear A130
        by_cases c14 : 0 ≤ x6_1
        ·rw [if_pos c14] at H
         have c14b0 : decide (0 ≤ x6_1) = true := decide_eq_true c14
         clear c14
         by_cases c15 : x6_1 < (l0.length : Int)
         ·rw [if_pos c15] at H
          have c15b0 : decide (x6_1 < (l0.length : Int)) = true := decide_eq_true c15
          clear c15
          replace H := Option.bind_eq_some_iff.mp H
          obtain ⟨⟨t156, t157⟩, A160, H⟩ := H
          replace H : (if (wrap64 (t153 * t157)) > (wrap64 (t156 * t154)) then (impl_WeakestOf.l0 k1 l0 x23_1 l0 (l0.length : Int) (wrap64 (x23_1 + 1))) else (impl_WeakestOf.l0 k1 l0 x6_1 l0 (l0.length : Int) (wrap64 (x23_1 + 1)))) = some (r1, r2, r3, r4) := H
          have A16 := Aside0.mk A160
          clear A160
          by_cases c17 : (wrap64 (t153 * t157)) > (wrap64 (t156 * t154))
          ·rw [if_pos c17] at H
           have c17b0 : decide ((wrap64 (t156 * t154)) < (wrap64 (t153 * t157))) = true := decide_eq_true c17
           clear c17
           have H' := Aside0.mk H
           clear H
           have p151 : 0 ≤ (x23_1 : Int) := of_decide_eq_true (by first | (with_reducible assumption) | assumption)
           have q151 : x23_1 < (l0.length : Int) := of_decide_eq_true (by first | (with_reducible assumption) | assumption)
           obtain ⟨ad151, e151, hx151_0, hx151_1, hx151_2⟩ := at_T106 HR0.out x23_1 p151 q151
           cases e151
           replace hx151_0 := (HB.out.cell (World.block_lt_of_cell? w _ hx151_0)).trans hx151_0
           replace hx151_1 := (HB.out.cell (World.block_lt_of_cell? w _ hx151_1)).trans hx151_1
           replace hx151_2 := (HB.out.cell (World.block_lt_of_cell? w _ hx151_2)).trans hx151_2
           replace p151 := eq_true p151
           replace q151 := eq_true q151
           try go_wp2_with (first | ((with_reducible refine gate_dst (N := 8) rfl ?_); refine box_event ?hg (N := 8) ?hd (cs := #[.int .i16 0, .int .i16 0, .int .i16 0]) (t := 106) ?hr ?_; (case hd => rfl); (case hg => rfl); (case hr => first | (go_simp; done) | (go_simp; rfl)); intro gb152 hg w18 hbox hb; have n0_ := Aside0.mk (blk_below (g := gb146) (o := .cells #[.int .i64 0, .int .i64 0] 45 (0, 0)) BK146.out hb); have n1_ := Aside0.mk (below_step HB.out hb); have n2_ := Aside0.mk (hbox); have n3_ := Aside0.mk ((by rw [hg]; exact (below_size HB.out) : w.heap.size ≤ gb152)); have n4_ := Aside0.mk ((by rw [hg]; exact (below_size HB.out) : w.heap.size ≤ gb152)); have n5_ := Aside0.mk ((by rw [hg]; exact Nat.ne_of_lt (blk_lt (g := gb146) (o := .cells #[.int .i64 0, .int .i64 0] 45 (0, 0)) BK146.out) : gb146 ≠ gb152)); have n6_ := Aside0.mk ((by rw [hg]; exact Nat.ne_of_gt (blk_lt (g := gb146) (o := .cells #[.int .i64 0, .int .i64 0] 45 (0, 0)) BK146.out) : gb152 ≠ gb146)); clear BK146; clear HB; have BK146 := n0_; have HB := n1_; have BK152 := n2_; have GW152 := n3_; have GE152 := n4_; have NB146_152 := n5_; have NB152_146 := n6_; clear n0_ n1_ n2_ n3_ n4_ n5_ n6_; clear hb hbox hg; have hnb19 := NB152_146.out; have hnc19 := NB146_152.out; have hcz20_0 : w18.cell? ⟨gb152, 0, none⟩ = some (.int .i16 0) := (blk_cell BK152.out 0).trans rfl; have hcz20_1 : w18.cell? ⟨gb152, 1, none⟩ = some (.int .i16 0) := (blk_cell BK152.out 1).trans rfl; have hcz20_2 : w18.cell? ⟨gb152, 2, none⟩ = some (.int .i16 0) := (blk_cell BK152.out 2).trans rfl; have hfz20_0 := blk_frozen BK152.out 0; have hfz20_1 := blk_frozen BK152.out 1; have hfz20_2 := blk_frozen BK152.out 2))
           have n0_ : Aside0 ((((w18.setCell ⟨gb152, 0, none⟩ (.int .i16 ((rd_T106 l0 x23_1).f0))).setCell ⟨gb152, 1, none⟩ (.int .i16 ((rd_T106 l0 x23_1).f1))).setCell ⟨gb152, 2, none⟩ (.int .i16 ((rd_T106 l0 x23_1).f2))).heap[gb146]? = some (.cells #[.int .i64 0, .int .i64 0] 45 (0, 0))) := ⟨by (with_reducible repeat (first | refine blk_drewN ?_ _ | refine blk_drew ?_ | refine blk_alloc ?_ _)); refine blk_far ?_ NB146_152.out _; (with_reducible repeat (first | refine blk_drewN ?_ _ | refine blk_drew ?_ | refine blk_alloc ?_ _)); refine blk_far ?_ NB146_152.out _; (with_reducible repeat (first | refine blk_drewN ?_ _ | refine blk_drew ?_ | refine blk_alloc ?_ _)); refine blk_far ?_ NB146_152.out _; (with_reducible repeat (first | refine blk_drewN ?_ _ | refine blk_drew ?_ | refine blk_alloc ?_ _)); exact BK146.out⟩
           have n1_ : Aside0 ((((w18.setCell ⟨gb152, 0, none⟩ (.int .i16 ((rd_T106 l0 x23_1).f0))).setCell ⟨gb152, 1, none⟩ (.int .i16 ((rd_T106 l0 x23_1).f1))).setCell ⟨gb152, 2, none⟩ (.int .i16 ((rd_T106 l0 x23_1).f2))).heap[gb152]? = some (.cells #[.int .i16 ((rd_T106 l0 x23_1).f0), .int .i16 ((rd_T106 l0 x23_1).f1), .int .i16 ((rd_T106 l0 x23_1).f2)] 106 (0, 0))) := ⟨by (with_reducible repeat (first | refine blk_drewN ?_ _ | refine blk_drew ?_ | refine blk_alloc ?_ _)); refine blk_put (cs := #[.int .i16 ((rd_T106 l0 x23_1).f0), .int .i16 ((rd_T106 l0 x23_1).f1), .int .i16 0]) ?_ 2 _ rfl; (with_reducible repeat (first | refine blk_drewN ?_ _ | refine blk_drew ?_ | refine blk_alloc ?_ _)); refine blk_put (cs := #[.int .i16 ((rd_T106 l0 x23_1).f0), .int .i16 0, .int .i16 0]) ?_ 1 _ rfl; (with_reducible repeat (first | refine blk_drewN ?_ _ | refine blk_drew ?_ | refine blk_alloc ?_ _)); refine blk_put (cs := #[.int .i16 0, .int .i16 0, .int .i16 0]) ?_ 0 _ rfl; (with_reducible repeat (first | refine blk_drewN ?_ _ | refine blk_drew ?_ | refine blk_alloc ?_ _)); exact BK152.out⟩
           have n2_ : Aside0 (Below w.heap.size w (((w18.setCell ⟨gb152, 0, none⟩ (.int .i16 ((rd_T106 l0 x23_1).f0))).setCell ⟨gb152, 1, none⟩ (.int .i16 ((rd_T106 l0 x23_1).f1))).setCell ⟨gb152, 2, none⟩ (.int .i16 ((rd_T106 l0 x23_1).f2)))) := ⟨by repeat (first | (with_reducible first | exact HB.out | apply below_alloc | apply pw_below_drewN | apply below_drew1 | refine below_set ?_ GE146.out | refine below_set ?_ GE152.out) | exact HB.out)⟩
           (try clear BK146)
           (try clear BK152)
           (try clear HB)
           generalize (((w18.setCell ⟨gb152, 0, none⟩ (.int .i16 ((rd_T106 l0 x23_1).f0))).setCell ⟨gb152, 1, none⟩ (.int .i16 ((rd_T106 l0 x23_1).f1))).setCell ⟨gb152, 2, none⟩ (.int .i16 ((rd_T106 l0 x23_1).f2))) = w21 at n0_ n1_ n2_ ⊢
           have BK146 := n0_
           have BK152 := n1_
           have HB := n2_
           clear n0_ n1_ n2_
           have n0_ := Aside0.mk (blk_drew BK146.out)
           have n1_ := Aside0.mk (blk_drew BK152.out)
           have n2_ := Aside0.mk (below_drew1 HB.out)
           clear BK146
           clear BK152
           clear HB
           have BK146 := n0_
           have BK152 := n1_
           have HB := n2_
           clear n0_ n1_ n2_
           have p155 : 0 ≤ (x6_1 : Int) := of_decide_eq_true (by first | (with_reducible assumption) | assumption)
           have q155 : x6_1 < (l0.length : Int) := of_decide_eq_true (by first | (with_reducible assumption) | assumption)
           obtain ⟨ad155, e155, hx155_0, hx155_1, hx155_2⟩ := at_T106 HR0.out x6_1 p155 q155
           have hw155_2 := hx155_2
           have hw155_1 := hx155_1
           have hw155_0 := hx155_0
           obtain rfl : ad151 = ad155 := (by injection e155)
           replace hx155_0 := (HB.out.cell (World.block_lt_of_cell? w _ hx155_0)).trans hx155_0
           replace hx155_1 := (HB.out.cell (World.block_lt_of_cell? w _ hx155_1)).trans hx155_1
           replace hx155_2 := (HB.out.cell (World.block_lt_of_cell? w _ hx155_2)).trans hx155_2
           replace p155 := eq_true p155
           replace q155 := eq_true q155
           refine start_ (n := 11) (S := fun w' => w'.cell? ⟨gb152, 0, none⟩ = some (.int .i16 ((rd_T106 l0 x23_1).f0)) ∧ w'.cell? ⟨gb152, 1, none⟩ = some (.int .i16 ((rd_T106 l0 x23_1).f1)) ∧ w'.cell? ⟨gb152, 2, none⟩ = some (.int .i16 ((rd_T106 l0 x23_1).f2)) ∧ w'.cell? (ad151.add ((x6_1).toNat * 3)) = some (.int .i16 ((rd_T106 l0 x6_1).f0)) ∧ w'.cell? ⟨(ad151.add ((x6_1).toNat * 3)).block, (ad151.add ((x6_1).toNat * 3)).off + 1, none⟩ = some (.int .i16 ((rd_T106 l0 x6_1).f1)) ∧ w'.cell? ⟨(ad151.add ((x6_1).toNat * 3)).block, (ad151.add ((x6_1).toNat * 3)).off + 2, none⟩ = some (.int .i16 ((rd_T106 l0 x6_1).f2))) (ds := []) #[false, false, false, false, false, false, false, false, false, false, false] (by kernel_rfl) rfl rfl ⟨(blk_cell BK152.out 0).trans rfl, (blk_cell BK152.out 1).trans rfl, (blk_cell BK152.out 2).trans rfl, ((HB.out.cell (World.block_lt_of_cell? w _ hw155_0)).trans hw155_0), ((HB.out.cell (World.block_lt_of_cell? w _ hw155_1)).trans hw155_1), ((HB.out.cell (World.block_lt_of_cell? w _ hw155_2)).trans hw155_2)⟩ (fun hHeld => ?_); refine with_tabW impl_WeakestOf.tab10 impl_WeakestOf.bits10 (fun HT_ HW_ => ?_)
           generalize w21.drew = w22 at BK146 BK152 HB hx155_0 hx155_1 hx155_2 hHeld ⊢
           refine pure_ (i := 2) (N := some 30) (v := ?_) (a' := ?_) #[false, false, true, false, false, false, false, false, false, false, false] rfl rfl (any_of HT_.out (by kernel_rfl)) (fun _ _ _ h => h) (Or.inl ⟨by rfl, ?_⟩) ?_ ?_
           rotate_left
           ·intro w'
            go_simp
            with_reducible rfl
           rotate_left
           ·simp only [Act.put, List.setIfInBounds_toArray, List.set_cons_zero, List.set_cons_succ, i64_w, i32_w]
            rfl
           refine pure_ (i := 3) (N := some 31) (v := ?_) (a' := ?_) #[false, false, true, true, false, false, false, false, false, false, false] rfl rfl (any_of HT_.out (by kernel_rfl)) (fun _ _ _ h => h) (Or.inl ⟨by rfl, ?_⟩) ?_ ?_
           rotate_left
           ·intro w'
            go_simp
            with_reducible rfl
           rotate_left
           ·simp only [Act.put, List.setIfInBounds_toArray, List.set_cons_zero, List.set_cons_succ, i64_w, i32_w]
            rfl
           refine pure_ (i := 4) (N := some 32) (v := ?_) (a' := ?_) #[false, false, true, true, true, false, false, false, false, false, false] rfl rfl (any_of HT_.out (by kernel_rfl)) (fun _ _ _ h => h) (Or.inl ⟨by rfl, ?_⟩) ?_ ?_
           rotate_left
           ·intro w'
            go_simp
            with_reducible rfl
           rotate_left
           ·simp only [Act.put, List.setIfInBounds_toArray, List.set_cons_zero, List.set_cons_succ, i64_w, i32_w]
            rfl
           refine take_ (i := 0) (N := some 28) (v := ?_) (a' := ?_) #[true, false, true, true, true, false, false, false, false, false, false] rfl rfl (take_ofW HT_.out HW_.out (by kernel_rfl)) (fun _ _ _ h => h) (Or.inl ⟨by rfl, ?_⟩) hHeld ?_ ?_
           rotate_left
           ·rintro w' ⟨s0, s1, s2, s3, s4, s5⟩
            go_simp
            with_reducible rfl
           rotate_left
           ·simp only [Act.put, List.setIfInBounds_toArray, List.set_cons_zero, List.set_cons_succ, i64_w, i32_w]
            rfl
           refine take_ (i := 5) (N := some 33) (v := ?_) (a' := ?_) #[true, false, true, true, true, true, false, false, false, false, false] rfl rfl (take_ofW HT_.out HW_.out (by kernel_rfl)) (fun _ _ _ h => h) (Or.inl ⟨by rfl, ?_⟩) hHeld ?_ ?_
           rotate_left
           ·rintro w' ⟨s0, s1, s2, s3, s4, s5⟩
            go_simp
            with_reducible rfl
           rotate_left
           ·simp only [Act.put, List.setIfInBounds_toArray, List.set_cons_zero, List.set_cons_succ, i64_w, i32_w]
            rfl
           refine join_ (σ := Nat × Nat) 2 #[true, true, true, true, true, true, true, true, true, false, false] (fun s_ => [(29, .agg #[.int .i64 t153, .int .i64 t154]), (34, .agg #[.int .i64 t156, .int .i64 t157]), (9, .pointer (some ⟨s_.1, 0, none⟩)), (10, .pointer (some ⟨s_.2, 0, none⟩))]) (fun s_ w' => (w'.cell? ⟨gb152, 0, none⟩ = some (.int .i16 ((rd_T106 l0 x23_1).f0)) ∧ w'.cell? ⟨gb152, 1, none⟩ = some (.int .i16 ((rd_T106 l0 x23_1).f1)) ∧ w'.cell? ⟨gb152, 2, none⟩ = some (.int .i16 ((rd_T106 l0 x23_1).f2)) ∧ w'.cell? (ad151.add ((x6_1).toNat * 3)) = some (.int .i16 ((rd_T106 l0 x6_1).f0)) ∧ w'.cell? ⟨(ad151.add ((x6_1).toNat * 3)).block, (ad151.add ((x6_1).toNat * 3)).off + 1, none⟩ = some (.int .i16 ((rd_T106 l0 x6_1).f1)) ∧ w'.cell? ⟨(ad151.add ((x6_1).toNat * 3)).block, (ad151.add ((x6_1).toNat * 3)).off + 2, none⟩ = some (.int .i16 ((rd_T106 l0 x6_1).f2))) ∧ (w'.heap[gb146]? = some (.cells #[.int .i64 0, .int .i64 0] 45 (0, 0))) ∧ (w'.heap[gb152]? = some (.cells #[.int .i16 ((rd_T106 l0 x23_1).f0), .int .i16 ((rd_T106 l0 x23_1).f1), .int .i16 ((rd_T106 l0 x23_1).f2)] 106 (0, 0))) ∧ (w'.heap[s_.1]? = some (.cells #[.int .i64 0, .int .i64 0] 45 (0, 0))) ∧ (w'.heap[s_.2]? = some (.cells #[.int .i64 0, .int .i64 0] 45 (0, 0))) ∧ (w.heap.size ≤ s_.1) ∧ (w.heap.size ≤ s_.1) ∧ (gb146 ≠ s_.1) ∧ (s_.1 ≠ gb146) ∧ (gb152 ≠ s_.1) ∧ (s_.1 ≠ gb152) ∧ (s_.2 ≠ s_.1) ∧ (s_.1 ≠ s_.2) ∧ (w.heap.size ≤ s_.2) ∧ (w.heap.size ≤ s_.2) ∧ (gb146 ≠ s_.2) ∧ (s_.2 ≠ gb146) ∧ (gb152 ≠ s_.2) ∧ (s_.2 ≠ gb152) ∧ (Below w.heap.size w w')) ?_ ?_
           rotate_left
           ·intro hJ1_6_7_8
            refine join_ (σ := Nat) 3 #[true, true, true, true, true, true, true, true, false, false, false] (fun s_ => [(29, .agg #[.int .i64 t153, .int .i64 t154]), (34, .agg #[.int .i64 t156, .int .i64 t157]), (9, .pointer (some ⟨s_, 0, none⟩))]) (fun s_ w' => (w'.cell? ⟨gb152, 0, none⟩ = some (.int .i16 ((rd_T106 l0 x23_1).f0)) ∧ w'.cell? ⟨gb152, 1, none⟩ = some (.int .i16 ((rd_T106 l0 x23_1).f1)) ∧ w'.cell? ⟨gb152, 2, none⟩ = some (.int .i16 ((rd_T106 l0 x23_1).f2)) ∧ w'.cell? (ad151.add ((x6_1).toNat * 3)) = some (.int .i16 ((rd_T106 l0 x6_1).f0)) ∧ w'.cell? ⟨(ad151.add ((x6_1).toNat * 3)).block, (ad151.add ((x6_1).toNat * 3)).off + 1, none⟩ = some (.int .i16 ((rd_T106 l0 x6_1).f1)) ∧ w'.cell? ⟨(ad151.add ((x6_1).toNat * 3)).block, (ad151.add ((x6_1).toNat * 3)).off + 2, none⟩ = some (.int .i16 ((rd_T106 l0 x6_1).f2))) ∧ (w'.heap[gb146]? = some (.cells #[.int .i64 0, .int .i64 0] 45 (0, 0))) ∧ (w'.heap[gb152]? = some (.cells #[.int .i16 ((rd_T106 l0 x23_1).f0), .int .i16 ((rd_T106 l0 x23_1).f1), .int .i16 ((rd_T106 l0 x23_1).f2)] 106 (0, 0))) ∧ (w'.heap[s_]? = some (.cells #[.int .i64 0, .int .i64 0] 45 (0, 0))) ∧ (w.heap.size ≤ s_) ∧ (w.heap.size ≤ s_) ∧ (gb146 ≠ s_) ∧ (s_ ≠ gb146) ∧ (gb152 ≠ s_) ∧ (s_ ≠ gb152) ∧ (Below w.heap.size w w')) ?_ ?_
            rotate_left
            ·intro hJ1_6_7
             refine join_ (σ := Nat) 3 #[true, true, true, true, true, true, true, false, true, false, false] (fun s_ => [(29, .agg #[.int .i64 t153, .int .i64 t154]), (34, .agg #[.int .i64 t156, .int .i64 t157]), (10, .pointer (some ⟨s_, 0, none⟩))]) (fun s_ w' => (w'.cell? ⟨gb152, 0, none⟩ = some (.int .i16 ((rd_T106 l0 x23_1).f0)) ∧ w'.cell? ⟨gb152, 1, none⟩ = some (.int .i16 ((rd_T106 l0 x23_1).f1)) ∧ w'.cell? ⟨gb152, 2, none⟩ = some (.int .i16 ((rd_T106 l0 x23_1).f2)) ∧ w'.cell? (ad151.add ((x6_1).toNat * 3)) = some (.int .i16 ((rd_T106 l0 x6_1).f0)) ∧ w'.cell? ⟨(ad151.add ((x6_1).toNat * 3)).block, (ad151.add ((x6_1).toNat * 3)).off + 1, none⟩ = some (.int .i16 ((rd_T106 l0 x6_1).f1)) ∧ w'.cell? ⟨(ad151.add ((x6_1).toNat * 3)).block, (ad151.add ((x6_1).toNat * 3)).off + 2, none⟩ = some (.int .i16 ((rd_T106 l0 x6_1).f2))) ∧ (w'.heap[gb146]? = some (.cells #[.int .i64 0, .int .i64 0] 45 (0, 0))) ∧ (w'.heap[gb152]? = some (.cells #[.int .i16 ((rd_T106 l0 x23_1).f0), .int .i16 ((rd_T106 l0 x23_1).f1), .int .i16 ((rd_T106 l0 x23_1).f2)] 106 (0, 0))) ∧ (w'.heap[s_]? = some (.cells #[.int .i64 0, .int .i64 0] 45 (0, 0))) ∧ (w.heap.size ≤ s_) ∧ (w.heap.size ≤ s_) ∧ (gb146 ≠ s_) ∧ (s_ ≠ gb146) ∧ (gb152 ≠ s_) ∧ (s_ ≠ gb152) ∧ (Below w.heap.size w w')) ?_ ?_
             rotate_left
             ·intro hJ1_6_8
              refine join_ (σ := Nat × Nat) 3 #[true, true, true, true, true, true, false, true, true, false, false] (fun s_ => [(29, .agg #[.int .i64 t153, .int .i64 t154]), (9, .pointer (some ⟨s_.1, 0, none⟩)), (10, .pointer (some ⟨s_.2, 0, none⟩))]) (fun s_ w' => (w'.cell? ⟨gb152, 0, none⟩ = some (.int .i16 ((rd_T106 l0 x23_1).f0)) ∧ w'.cell? ⟨gb152, 1, none⟩ = some (.int .i16 ((rd_T106 l0 x23_1).f1)) ∧ w'.cell? ⟨gb152, 2, none⟩ = some (.int .i16 ((rd_T106 l0 x23_1).f2)) ∧ w'.cell? (ad151.add ((x6_1).toNat * 3)) = some (.int .i16 ((rd_T106 l0 x6_1).f0)) ∧ w'.cell? ⟨(ad151.add ((x6_1).toNat * 3)).block, (ad151.add ((x6_1).toNat * 3)).off + 1, none⟩ = some (.int .i16 ((rd_T106 l0 x6_1).f1)) ∧ w'.cell? ⟨(ad151.add ((x6_1).toNat * 3)).block, (ad151.add ((x6_1).toNat * 3)).off + 2, none⟩ = some (.int .i16 ((rd_T106 l0 x6_1).f2))) ∧ (w'.heap[gb146]? = some (.cells #[.int .i64 0, .int .i64 0] 45 (0, 0))) ∧ (w'.heap[gb152]? = some (.cells #[.int .i16 ((rd_T106 l0 x23_1).f0), .int .i16 ((rd_T106 l0 x23_1).f1), .int .i16 ((rd_T106 l0 x23_1).f2)] 106 (0, 0))) ∧ (w'.heap[s_.1]? = some (.cells #[.int .i64 0, .int .i64 0] 45 (0, 0))) ∧ (w'.heap[s_.2]? = some (.cells #[.int .i64 0, .int .i64 0] 45 (0, 0))) ∧ (w.heap.size ≤ s_.1) ∧ (w.heap.size ≤ s_.1) ∧ (gb146 ≠ s_.1) ∧ (s_.1 ≠ gb146) ∧ (gb152 ≠ s_.1) ∧ (s_.1 ≠ gb152) ∧ (s_.2 ≠ s_.1) ∧ (s_.1 ≠ s_.2) ∧ (w.heap.size ≤ s_.2) ∧ (w.heap.size ≤ s_.2) ∧ (gb146 ≠ s_.2) ∧ (s_.2 ≠ gb146) ∧ (gb152 ≠ s_.2) ∧ (s_.2 ≠ gb152) ∧ (Below w.heap.size w w')) ?_ ?_
              rotate_left
              ·intro hJ1_7_8
               refine join_ (σ := Unit) 4 #[true, true, true, true, true, true, true, false, false, false, false] (fun s_ => [(29, .agg #[.int .i64 t153, .int .i64 t154]), (34, .agg #[.int .i64 t156, .int .i64 t157])]) (fun s_ w' => (w'.cell? ⟨gb152, 0, none⟩ = some (.int .i16 ((rd_T106 l0 x23_1).f0)) ∧ w'.cell? ⟨gb152, 1, none⟩ = some (.int .i16 ((rd_T106 l0 x23_1).f1)) ∧ w'.cell? ⟨gb152, 2, none⟩ = some (.int .i16 ((rd_T106 l0 x23_1).f2)) ∧ w'.cell? (ad151.add ((x6_1).toNat * 3)) = some (.int .i16 ((rd_T106 l0 x6_1).f0)) ∧ w'.cell? ⟨(ad151.add ((x6_1).toNat * 3)).block, (ad151.add ((x6_1).toNat * 3)).off + 1, none⟩ = some (.int .i16 ((rd_T106 l0 x6_1).f1)) ∧ w'.cell? ⟨(ad151.add ((x6_1).toNat * 3)).block, (ad151.add ((x6_1).toNat * 3)).off + 2, none⟩ = some (.int .i16 ((rd_T106 l0 x6_1).f2))) ∧ (w'.heap[gb146]? = some (.cells #[.int .i64 0, .int .i64 0] 45 (0, 0))) ∧ (w'.heap[gb152]? = some (.cells #[.int .i16 ((rd_T106 l0 x23_1).f0), .int .i16 ((rd_T106 l0 x23_1).f1), .int .i16 ((rd_T106 l0 x23_1).f2)] 106 (0, 0))) ∧ (Below w.heap.size w w')) ?_ ?_
               rotate_left
               ·intro hJ1_6
                refine join_ (σ := Nat) 4 #[true, true, true, true, true, true, false, true, false, false, false] (fun s_ => [(29, .agg #[.int .i64 t153, .int .i64 t154]), (9, .pointer (some ⟨s_, 0, none⟩))]) (fun s_ w' => (w'.cell? ⟨gb152, 0, none⟩ = some (.int .i16 ((rd_T106 l0 x23_1).f0)) ∧ w'.cell? ⟨gb152, 1, none⟩ = some (.int .i16 ((rd_T106 l0 x23_1).f1)) ∧ w'.cell? ⟨gb152, 2, none⟩ = some (.int .i16 ((rd_T106 l0 x23_1).f2)) ∧ w'.cell? (ad151.add ((x6_1).toNat * 3)) = some (.int .i16 ((rd_T106 l0 x6_1).f0)) ∧ w'.cell? ⟨(ad151.add ((x6_1).toNat * 3)).block, (ad151.add ((x6_1).toNat * 3)).off + 1, none⟩ = some (.int .i16 ((rd_T106 l0 x6_1).f1)) ∧ w'.cell? ⟨(ad151.add ((x6_1).toNat * 3)).block, (ad151.add ((x6_1).toNat * 3)).off + 2, none⟩ = some (.int .i16 ((rd_T106 l0 x6_1).f2))) ∧ (w'.heap[gb146]? = some (.cells #[.int .i64 0, .int .i64 0] 45 (0, 0))) ∧ (w'.heap[gb152]? = some (.cells #[.int .i16 ((rd_T106 l0 x23_1).f0), .int .i16 ((rd_T106 l0 x23_1).f1), .int .i16 ((rd_T106 l0 x23_1).f2)] 106 (0, 0))) ∧ (w'.heap[s_]? = some (.cells #[.int .i64 0, .int .i64 0] 45 (0, 0))) ∧ (w.heap.size ≤ s_) ∧ (w.heap.size ≤ s_) ∧ (gb146 ≠ s_) ∧ (s_ ≠ gb146) ∧ (gb152 ≠ s_) ∧ (s_ ≠ gb152) ∧ (Below w.heap.size w w')) ?_ ?_
                rotate_left
                ·intro hJ1_7
                 refine join_ (σ := Nat) 4 #[true, true, true, true, true, true, false, false, true, false, false] (fun s_ => [(29, .agg #[.int .i64 t153, .int .i64 t154]), (10, .pointer (some ⟨s_, 0, none⟩))]) (fun s_ w' => (w'.cell? ⟨gb152, 0, none⟩ = some (.int .i16 ((rd_T106 l0 x23_1).f0)) ∧ w'.cell? ⟨gb152, 1, none⟩ = some (.int .i16 ((rd_T106 l0 x23_1).f1)) ∧ w'.cell? ⟨gb152, 2, none⟩ = some (.int .i16 ((rd_T106 l0 x23_1).f2)) ∧ w'.cell? (ad151.add ((x6_1).toNat * 3)) = some (.int .i16 ((rd_T106 l0 x6_1).f0)) ∧ w'.cell? ⟨(ad151.add ((x6_1).toNat * 3)).block, (ad151.add ((x6_1).toNat * 3)).off + 1, none⟩ = some (.int .i16 ((rd_T106 l0 x6_1).f1)) ∧ w'.cell? ⟨(ad151.add ((x6_1).toNat * 3)).block, (ad151.add ((x6_1).toNat * 3)).off + 2, none⟩ = some (.int .i16 ((rd_T106 l0 x6_1).f2))) ∧ (w'.heap[gb146]? = some (.cells #[.int .i64 0, .int .i64 0] 45 (0, 0))) ∧ (w'.heap[gb152]? = some (.cells #[.int .i16 ((rd_T106 l0 x23_1).f0), .int .i16 ((rd_T106 l0 x23_1).f1), .int .i16 ((rd_T106 l0 x23_1).f2)] 106 (0, 0))) ∧ (w'.heap[s_]? = some (.cells #[.int .i64 0, .int .i64 0] 45 (0, 0))) ∧ (w.heap.size ≤ s_) ∧ (w.heap.size ≤ s_) ∧ (gb146 ≠ s_) ∧ (s_ ≠ gb146) ∧ (gb152 ≠ s_) ∧ (s_ ≠ gb152) ∧ (Below w.heap.size w w')) ?_ ?_
                 rotate_left
                 ·intro hJ1_8
                  refine join_ (σ := Nat × Nat) 4 #[true, false, true, true, true, true, false, true, true, false, false] (fun s_ => [(9, .pointer (some ⟨s_.1, 0, none⟩)), (10, .pointer (some ⟨s_.2, 0, none⟩))]) (fun s_ w' => (w'.cell? ⟨gb152, 0, none⟩ = some (.int .i16 ((rd_T106 l0 x23_1).f0)) ∧ w'.cell? ⟨gb152, 1, none⟩ = some (.int .i16 ((rd_T106 l0 x23_1).f1)) ∧ w'.cell? ⟨gb152, 2, none⟩ = some (.int .i16 ((rd_T106 l0 x23_1).f2)) ∧ w'.cell? (ad151.add ((x6_1).toNat * 3)) = some (.int .i16 ((rd_T106 l0 x6_1).f0)) ∧ w'.cell? ⟨(ad151.add ((x6_1).toNat * 3)).block, (ad151.add ((x6_1).toNat * 3)).off + 1, none⟩ = some (.int .i16 ((rd_T106 l0 x6_1).f1)) ∧ w'.cell? ⟨(ad151.add ((x6_1).toNat * 3)).block, (ad151.add ((x6_1).toNat * 3)).off + 2, none⟩ = some (.int .i16 ((rd_T106 l0 x6_1).f2))) ∧ (w'.heap[gb146]? = some (.cells #[.int .i64 0, .int .i64 0] 45 (0, 0))) ∧ (w'.heap[gb152]? = some (.cells #[.int .i16 ((rd_T106 l0 x23_1).f0), .int .i16 ((rd_T106 l0 x23_1).f1), .int .i16 ((rd_T106 l0 x23_1).f2)] 106 (0, 0))) ∧ (w'.heap[s_.1]? = some (.cells #[.int .i64 0, .int .i64 0] 45 (0, 0))) ∧ (w'.heap[s_.2]? = some (.cells #[.int .i64 0, .int .i64 0] 45 (0, 0))) ∧ (w.heap.size ≤ s_.1) ∧ (w.heap.size ≤ s_.1) ∧ (gb146 ≠ s_.1) ∧ (s_.1 ≠ gb146) ∧ (gb152 ≠ s_.1) ∧ (s_.1 ≠ gb152) ∧ (s_.2 ≠ s_.1) ∧ (s_.1 ≠ s_.2) ∧ (w.heap.size ≤ s_.2) ∧ (w.heap.size ≤ s_.2) ∧ (gb146 ≠ s_.2) ∧ (s_.2 ≠ gb146) ∧ (gb152 ≠ s_.2) ∧ (s_.2 ≠ gb152) ∧ (Below w.heap.size w w')) ?_ ?_
                  rotate_left
                  ·intro hJ7_8
                   refine join_ (σ := Unit) 5 #[true, true, true, true, true, true, false, false, false, false, false] (fun s_ => [(29, .agg #[.int .i64 t153, .int .i64 t154])]) (fun s_ w' => (w'.cell? ⟨gb152, 0, none⟩ = some (.int .i16 ((rd_T106 l0 x23_1).f0)) ∧ w'.cell? ⟨gb152, 1, none⟩ = some (.int .i16 ((rd_T106 l0 x23_1).f1)) ∧ w'.cell? ⟨gb152, 2, none⟩ = some (.int .i16 ((rd_T106 l0 x23_1).f2)) ∧ w'.cell? (ad151.add ((x6_1).toNat * 3)) = some (.int .i16 ((rd_T106 l0 x6_1).f0)) ∧ w'.cell? ⟨(ad151.add ((x6_1).toNat * 3)).block, (ad151.add ((x6_1).toNat * 3)).off + 1, none⟩ = some (.int .i16 ((rd_T106 l0 x6_1).f1)) ∧ w'.cell? ⟨(ad151.add ((x6_1).toNat * 3)).block, (ad151.add ((x6_1).toNat * 3)).off + 2, none⟩ = some (.int .i16 ((rd_T106 l0 x6_1).f2))) ∧ (w'.heap[gb146]? = some (.cells #[.int .i64 0, .int .i64 0] 45 (0, 0))) ∧ (w'.heap[gb152]? = some (.cells #[.int .i16 ((rd_T106 l0 x23_1).f0), .int .i16 ((rd_T106 l0 x23_1).f1), .int .i16 ((rd_T106 l0 x23_1).f2)] 106 (0, 0))) ∧ (Below w.heap.size w w')) ?_ ?_
                   rotate_left
                   ·intro hJ1
                    refine join_ (σ := Nat) 5 #[true, false, true, true, true, true, false, true, false, false, false] (fun s_ => [(9, .pointer (some ⟨s_, 0, none⟩))]) (fun s_ w' => (w'.cell? ⟨gb152, 0, none⟩ = some (.int .i16 ((rd_T106 l0 x23_1).f0)) ∧ w'.cell? ⟨gb152, 1, none⟩ = some (.int .i16 ((rd_T106 l0 x23_1).f1)) ∧ w'.cell? ⟨gb152, 2, none⟩ = some (.int .i16 ((rd_T106 l0 x23_1).f2)) ∧ w'.cell? (ad151.add ((x6_1).toNat * 3)) = some (.int .i16 ((rd_T106 l0 x6_1).f0)) ∧ w'.cell? ⟨(ad151.add ((x6_1).toNat * 3)).block, (ad151.add ((x6_1).toNat * 3)).off + 1, none⟩ = some (.int .i16 ((rd_T106 l0 x6_1).f1)) ∧ w'.cell? ⟨(ad151.add ((x6_1).toNat * 3)).block, (ad151.add ((x6_1).toNat * 3)).off + 2, none⟩ = some (.int .i16 ((rd_T106 l0 x6_1).f2))) ∧ (w'.heap[gb146]? = some (.cells #[.int .i64 0, .int .i64 0] 45 (0, 0))) ∧ (w'.heap[gb152]? = some (.cells #[.int .i16 ((rd_T106 l0 x23_1).f0), .int .i16 ((rd_T106 l0 x23_1).f1), .int .i16 ((rd_T106 l0 x23_1).f2)] 106 (0, 0))) ∧ (w'.heap[s_]? = some (.cells #[.int .i64 0, .int .i64 0] 45 (0, 0))) ∧ (w.heap.size ≤ s_) ∧ (w.heap.size ≤ s_) ∧ (gb146 ≠ s_) ∧ (s_ ≠ gb146) ∧ (gb152 ≠ s_) ∧ (s_ ≠ gb152) ∧ (Below w.heap.size w w')) ?_ ?_
                    rotate_left
                    ·intro hJ7
                     refine join_ (σ := Nat) 5 #[true, false, true, true, true, true, false, false, true, false, false] (fun s_ => [(10, .pointer (some ⟨s_, 0, none⟩))]) (fun s_ w' => (w'.cell? ⟨gb152, 0, none⟩ = some (.int .i16 ((rd_T106 l0 x23_1).f0)) ∧ w'.cell? ⟨gb152, 1, none⟩ = some (.int .i16 ((rd_T106 l0 x23_1).f1)) ∧ w'.cell? ⟨gb152, 2, none⟩ = some (.int .i16 ((rd_T106 l0 x23_1).f2)) ∧ w'.cell? (ad151.add ((x6_1).toNat * 3)) = some (.int .i16 ((rd_T106 l0 x6_1).f0)) ∧ w'.cell? ⟨(ad151.add ((x6_1).toNat * 3)).block, (ad151.add ((x6_1).toNat * 3)).off + 1, none⟩ = some (.int .i16 ((rd_T106 l0 x6_1).f1)) ∧ w'.cell? ⟨(ad151.add ((x6_1).toNat * 3)).block, (ad151.add ((x6_1).toNat * 3)).off + 2, none⟩ = some (.int .i16 ((rd_T106 l0 x6_1).f2))) ∧ (w'.heap[gb146]? = some (.cells #[.int .i64 0, .int .i64 0] 45 (0, 0))) ∧ (w'.heap[gb152]? = some (.cells #[.int .i16 ((rd_T106 l0 x23_1).f0), .int .i16 ((rd_T106 l0 x23_1).f1), .int .i16 ((rd_T106 l0 x23_1).f2)] 106 (0, 0))) ∧ (w'.heap[s_]? = some (.cells #[.int .i64 0, .int .i64 0] 45 (0, 0))) ∧ (w.heap.size ≤ s_) ∧ (w.heap.size ≤ s_) ∧ (gb146 ≠ s_) ∧ (s_ ≠ gb146) ∧ (gb152 ≠ s_) ∧ (s_ ≠ gb152) ∧ (Below w.heap.size w w')) ?_ ?_
                     rotate_left
                     ·intro hJ8
                      refine three_ (i := 1) (j := 7) (k := 8) (Ni := some 29) (Nj := some 9) (Nk := some 10) #[true, true, true, true, true, true, false, false, false, false, false] #[true, false, true, true, true, true, false, true, false, false, false] #[true, false, true, true, true, true, false, false, true, false, false] rfl rfl rfl rfl rfl rfl (three_of HT_.out (by kernel_rfl)) (by decide) (by decide) (by decide) (fun K hK => ?_) (fun K hK => ?_) (fun K hK => ?_)
                      ·skip
                       refine goes_ Try.func82 (by kernel_rfl) rfl #[.agg #[.int .i16 ((rd_T106 l0 x23_1).f0), .int .i16 ((rd_T106 l0 x23_1).f1), .int .i16 ((rd_T106 l0 x23_1).f2)]] (by rfl) rfl rfl (by (try simp only [List.map_toArray, List.map_cons, List.map_nil]); first | done | rfl | (simp only [List.length_drop, List.length_take]; rfl)) ?_
                       with_reducible refine (impl_Yarn_count.calls k1 ((rd_T106 l0 x23_1).f0) ((rd_T106 l0 x23_1).f1) ((rd_T106 l0 x23_1).f2) t153 t154 _ A13.out).mono ?_
                       rintro e w23 ⟨rfl, hb⟩
                       refine ⟨_, rfl, ?_⟩
                       have n0_ := Aside0.mk (blk_below (g := gb146) (o := .cells #[.int .i64 0, .int .i64 0] 45 (0, 0)) BK146.out hb)
                       have n1_ := Aside0.mk (blk_below (g := gb152) (o := .cells #[.int .i16 ((rd_T106 l0 x23_1).f0), .int .i16 ((rd_T106 l0 x23_1).f1), .int .i16 ((rd_T106 l0 x23_1).f2)] 106 (0, 0)) BK152.out hb)
                       have n2_ := Aside0.mk (below_step HB.out hb)
                       clear BK146
                       clear BK152
                       clear HB
                       have BK146 := n0_
                       have BK152 := n1_
                       have HB := n2_
                       clear n0_ n1_ n2_
                       (try clear hb)
                       (try clear hb2)
                       (try clear hk)
                       (try clear hi)
                       refine hK.out _ _ ⟨(blk_cell BK152.out 0).trans rfl, (blk_cell BK152.out 1).trans rfl, (blk_cell BK152.out 2).trans rfl, ((HB.out.cell (World.block_lt_of_cell? w _ hw155_0)).trans hw155_0), ((HB.out.cell (World.block_lt_of_cell? w _ hw155_1)).trans hw155_1), ((HB.out.cell (World.block_lt_of_cell? w _ hw155_2)).trans hw155_2)⟩ (fun hHeld => ?_)
                       clear hK K
                       refine norm_ (a' := ?_) ?_ ?_
                       rotate_left
                       ·show Act.put _ (some 29) _ = _
                        simp only [Act.put, List.setIfInBounds_toArray, List.set_cons_zero, List.set_cons_succ, i64_w, i32_w]
                        rfl
                       exact norm_ (by first | (simp only [putAll, Act.put, List.setIfInBounds_toArray, List.set_cons_zero, List.set_cons_succ]; done) | (simp only [putAll, Act.put, List.setIfInBounds_toArray, List.set_cons_zero, List.set_cons_succ]; rfl)) (hJ1 () _ ⟨hHeld, BK146.out, BK152.out, HB.out⟩)
                      ·skip
                       refine box_step ?hg (N := 9) ?hd (cs := #[.int .i64 0, .int .i64 0]) (t := 45) ?hr ?_; (case hd => rfl); (case hg => rfl); (case hr => first | (go_simp; done) | (go_simp; rfl))
                       intro gb158 hg w23 hbox hb
                       have n0_ := Aside0.mk (blk_below (g := gb146) (o := .cells #[.int .i64 0, .int .i64 0] 45 (0, 0)) BK146.out hb)
                       have n1_ := Aside0.mk (blk_below (g := gb152) (o := .cells #[.int .i16 ((rd_T106 l0 x23_1).f0), .int .i16 ((rd_T106 l0 x23_1).f1), .int .i16 ((rd_T106 l0 x23_1).f2)] 106 (0, 0)) BK152.out hb)
                       have n2_ := Aside0.mk (below_step HB.out hb)
                       have n3_ := Aside0.mk (hbox)
                       have n4_ := Aside0.mk ((by rw [hg]; exact (below_size HB.out) : w.heap.size ≤ gb158))
                       have n5_ := n4_
                       have n6_ := Aside0.mk ((by rw [hg]; exact Nat.ne_of_lt (blk_lt (g := gb146) (o := .cells #[.int .i64 0, .int .i64 0] 45 (0, 0)) BK146.out) : gb146 ≠ gb158))
                       have n7_ := Aside0.mk (Ne.symm n6_.out)
                       have n8_ := Aside0.mk ((by rw [hg]; exact Nat.ne_of_lt (blk_lt (g := gb152) (o := .cells #[.int .i16 ((rd_T106 l0 x23_1).f0), .int .i16 ((rd_T106 l0 x23_1).f1), .int .i16 ((rd_T106 l0 x23_1).f2)] 106 (0, 0)) BK152.out) : gb152 ≠ gb158))
                       have n9_ := Aside0.mk (Ne.symm n8_.out)
                       clear BK146
                       clear BK152
                       clear HB
                       have BK146 := n0_
                       have BK152 := n1_
                       have HB := n2_
                       have BK158 := n3_
                       have GW158 := n4_
                       have GE158 := n5_
                       have NB146_158 := n6_
                       have NB158_146 := n7_
                       have NB152_158 := n8_
                       have NB158_152 := n9_
                       clear n0_ n1_ n2_ n3_ n4_ n5_ n6_ n7_ n8_ n9_
                       clear hb hbox hg
                       refine hK.out _ _ ⟨(blk_cell BK152.out 0).trans rfl, (blk_cell BK152.out 1).trans rfl, (blk_cell BK152.out 2).trans rfl, ((HB.out.cell (World.block_lt_of_cell? w _ hw155_0)).trans hw155_0), ((HB.out.cell (World.block_lt_of_cell? w _ hw155_1)).trans hw155_1), ((HB.out.cell (World.block_lt_of_cell? w _ hw155_2)).trans hw155_2)⟩ (fun hHeld => ?_)
                       clear hK K
                       refine norm_ (a' := ?_) ?_ ?_
                       rotate_left
                       ·show Act.put _ (some 9) _ = _
                        simp only [Act.put, List.setIfInBounds_toArray, List.set_cons_zero, List.set_cons_succ, i64_w, i32_w]
                        rfl
                       exact norm_ (by first | (simp only [putAll, Act.put, List.setIfInBounds_toArray, List.set_cons_zero, List.set_cons_succ]; done) | (simp only [putAll, Act.put, List.setIfInBounds_toArray, List.set_cons_zero, List.set_cons_succ]; rfl)) (hJ7 (gb158) _ ⟨hHeld, BK146.out, BK152.out, BK158.out, GW158.out, GE158.out, NB146_158.out, NB158_146.out, NB152_158.out, NB158_152.out, HB.out⟩)
                      ·skip
                       refine box_step ?hg (N := 10) ?hd (cs := #[.int .i64 0, .int .i64 0]) (t := 45) ?hr ?_; (case hd => rfl); (case hg => rfl); (case hr => first | (go_simp; done) | (go_simp; rfl))
                       intro gb159 hg w23 hbox hb
                       have n0_ := Aside0.mk (blk_below (g := gb146) (o := .cells #[.int .i64 0, .int .i64 0] 45 (0, 0)) BK146.out hb)
                       have n1_ := Aside0.mk (blk_below (g := gb152) (o := .cells #[.int .i16 ((rd_T106 l0 x23_1).f0), .int .i16 ((rd_T106 l0 x23_1).f1), .int .i16 ((rd_T106 l0 x23_1).f2)] 106 (0, 0)) BK152.out hb)
                       have n2_ := Aside0.mk (below_step HB.out hb)
                       have n3_ := Aside0.mk (hbox)
                       have n4_ := Aside0.mk ((by rw [hg]; exact (below_size HB.out) : w.heap.size ≤ gb159))
                       have n5_ := n4_
                       have n6_ := Aside0.mk ((by rw [hg]; exact Nat.ne_of_lt (blk_lt (g := gb146) (o := .cells #[.int .i64 0, .int .i64 0] 45 (0, 0)) BK146.out) : gb146 ≠ gb159))
                       have n7_ := Aside0.mk (Ne.symm n6_.out)
                       have n8_ := Aside0.mk ((by rw [hg]; exact Nat.ne_of_lt (blk_lt (g := gb152) (o := .cells #[.int .i16 ((rd_T106 l0 x23_1).f0), .int .i16 ((rd_T106 l0 x23_1).f1), .int .i16 ((rd_T106 l0 x23_1).f2)] 106 (0, 0)) BK152.out) : gb152 ≠ gb159))
                       have n9_ := Aside0.mk (Ne.symm n8_.out)
                       clear BK146
                       clear BK152
                       clear HB
                       have BK146 := n0_
                       have BK152 := n1_
                       have HB := n2_
                       have BK159 := n3_
                       have GW159 := n4_
                       have GE159 := n5_
                       have NB146_159 := n6_
                       have NB159_146 := n7_
                       have NB152_159 := n8_
                       have NB159_152 := n9_
                       clear n0_ n1_ n2_ n3_ n4_ n5_ n6_ n7_ n8_ n9_
                       clear hb hbox hg
                       refine hK.out _ _ ⟨(blk_cell BK152.out 0).trans rfl, (blk_cell BK152.out 1).trans rfl, (blk_cell BK152.out 2).trans rfl, ((HB.out.cell (World.block_lt_of_cell? w _ hw155_0)).trans hw155_0), ((HB.out.cell (World.block_lt_of_cell? w _ hw155_1)).trans hw155_1), ((HB.out.cell (World.block_lt_of_cell? w _ hw155_2)).trans hw155_2)⟩ (fun hHeld => ?_)
                       clear hK K
                       refine norm_ (a' := ?_) ?_ ?_
                       rotate_left
                       ·show Act.put _ (some 10) _ = _
                        simp only [Act.put, List.setIfInBounds_toArray, List.set_cons_zero, List.set_cons_succ, i64_w, i32_w]
                        rfl
                       exact norm_ (by first | (simp only [putAll, Act.put, List.setIfInBounds_toArray, List.set_cons_zero, List.set_cons_succ]; done) | (simp only [putAll, Act.put, List.setIfInBounds_toArray, List.set_cons_zero, List.set_cons_succ]; rfl)) (hJ8 (gb159) _ ⟨hHeld, BK146.out, BK152.out, BK159.out, GW159.out, GE159.out, NB146_159.out, NB159_146.out, NB152_159.out, NB159_152.out, HB.out⟩)
                     ·skip
                      rintro gb159 w24 ⟨hS_, h0_, h1_, h2_, h3_, h4_, h5_, h6_, h7_, h8_, h9_⟩
                      have n0_ : Aside0 (w24.heap[gb146]? = some (.cells #[.int .i64 0, .int .i64 0] 45 (0, 0))) := ⟨h0_⟩
                      have n1_ : Aside0 (w24.heap[gb152]? = some (.cells #[.int .i16 ((rd_T106 l0 x23_1).f0), .int .i16 ((rd_T106 l0 x23_1).f1), .int .i16 ((rd_T106 l0 x23_1).f2)] 106 (0, 0))) := ⟨h1_⟩
                      have n2_ : Aside0 (w24.heap[gb159]? = some (.cells #[.int .i64 0, .int .i64 0] 45 (0, 0))) := ⟨h2_⟩
                      have n3_ : Aside0 (w.heap.size ≤ gb159) := ⟨h3_⟩
                      have n4_ : Aside0 (w.heap.size ≤ gb159) := ⟨h4_⟩
                      have n5_ : Aside0 (gb146 ≠ gb159) := ⟨h5_⟩
                      have n6_ : Aside0 (gb159 ≠ gb146) := ⟨h6_⟩
                      have n7_ : Aside0 (gb152 ≠ gb159) := ⟨h7_⟩
                      have n8_ : Aside0 (gb159 ≠ gb152) := ⟨h8_⟩
                      have n9_ : Aside0 (Below w.heap.size w w24) := ⟨h9_⟩
                      clear BK146
                      clear BK152
                      clear HB
                      clear h0_ h1_ h2_ h3_ h4_ h5_ h6_ h7_ h8_ h9_
                      have BK146 := n0_
                      have BK152 := n1_
                      have BK159 := n2_
                      have GW159 := n3_
                      have GE159 := n4_
                      have NB146_159 := n5_
                      have NB159_146 := n6_
                      have NB152_159 := n7_
                      have NB159_152 := n8_
                      have HB := n9_
                      clear n0_ n1_ n2_ n3_ n4_ n5_ n6_ n7_ n8_ n9_
                      have hHeld : w24.cell? ⟨gb152, 0, none⟩ = some (.int .i16 ((rd_T106 l0 x23_1).f0)) ∧ w24.cell? ⟨gb152, 1, none⟩ = some (.int .i16 ((rd_T106 l0 x23_1).f1)) ∧ w24.cell? ⟨gb152, 2, none⟩ = some (.int .i16 ((rd_T106 l0 x23_1).f2)) ∧ w24.cell? (ad151.add ((x6_1).toNat * 3)) = some (.int .i16 ((rd_T106 l0 x6_1).f0)) ∧ w24.cell? ⟨(ad151.add ((x6_1).toNat * 3)).block, (ad151.add ((x6_1).toNat * 3)).off + 1, none⟩ = some (.int .i16 ((rd_T106 l0 x6_1).f1)) ∧ w24.cell? ⟨(ad151.add ((x6_1).toNat * 3)).block, (ad151.add ((x6_1).toNat * 3)).off + 2, none⟩ = some (.int .i16 ((rd_T106 l0 x6_1).f2)) := hS_
                      refine norm_ (a' := ?_) ?_ ?_
                      rotate_left
                      ·simp only [putAll, Act.put, List.setIfInBounds_toArray, List.set_cons_zero, List.set_cons_succ]
                       rfl
                      refine two_ (i := 1) (j := 7) (Ni := some 29) (Nj := some 9) #[true, true, true, true, true, true, false, false, true, false, false] #[true, false, true, true, true, true, false, true, true, false, false] rfl rfl rfl rfl (two_of HT_.out (by kernel_rfl)) (by decide) (by decide) (fun K hK => ?_) (fun K hK => ?_)
                      ·skip
                       refine goes_ Try.func82 (by kernel_rfl) rfl #[.agg #[.int .i16 ((rd_T106 l0 x23_1).f0), .int .i16 ((rd_T106 l0 x23_1).f1), .int .i16 ((rd_T106 l0 x23_1).f2)]] (by rfl) rfl rfl (by (try simp only [List.map_toArray, List.map_cons, List.map_nil]); first | done | rfl | (simp only [List.length_drop, List.length_take]; rfl)) ?_
                       with_reducible refine (impl_Yarn_count.calls k1 ((rd_T106 l0 x23_1).f0) ((rd_T106 l0 x23_1).f1) ((rd_T106 l0 x23_1).f2) t153 t154 _ A13.out).mono ?_
                       rintro e w25 ⟨rfl, hb⟩
                       refine ⟨_, rfl, ?_⟩
                       have n0_ := Aside0.mk (blk_below (g := gb146) (o := .cells #[.int .i64 0, .int .i64 0] 45 (0, 0)) BK146.out hb)
                       have n1_ := Aside0.mk (blk_below (g := gb152) (o := .cells #[.int .i16 ((rd_T106 l0 x23_1).f0), .int .i16 ((rd_T106 l0 x23_1).f1), .int .i16 ((rd_T106 l0 x23_1).f2)] 106 (0, 0)) BK152.out hb)
                       have n2_ := Aside0.mk (blk_below (g := gb159) (o := .cells #[.int .i64 0, .int .i64 0] 45 (0, 0)) BK159.out hb)
                       have n3_ := Aside0.mk (below_step HB.out hb)
                       clear BK146
                       clear BK152
                       clear BK159
                       clear HB
                       have BK146 := n0_
                       have BK152 := n1_
                       have BK159 := n2_
                       have HB := n3_
                       clear n0_ n1_ n2_ n3_
                       (try clear hb)
                       (try clear hb2)
                       (try clear hk)
                       (try clear hi)
                       refine hK.out _ _ ⟨(blk_cell BK152.out 0).trans rfl, (blk_cell BK152.out 1).trans rfl, (blk_cell BK152.out 2).trans rfl, ((HB.out.cell (World.block_lt_of_cell? w _ hw155_0)).trans hw155_0), ((HB.out.cell (World.block_lt_of_cell? w _ hw155_1)).trans hw155_1), ((HB.out.cell (World.block_lt_of_cell? w _ hw155_2)).trans hw155_2)⟩ (fun hHeld => ?_)
                       clear hK K
                       refine norm_ (a' := ?_) ?_ ?_
                       rotate_left
                       ·show Act.put _ (some 29) _ = _
                        simp only [Act.put, List.setIfInBounds_toArray, List.set_cons_zero, List.set_cons_succ, i64_w, i32_w]
                        rfl
                       exact norm_ (by first | (simp only [putAll, Act.put, List.setIfInBounds_toArray, List.set_cons_zero, List.set_cons_succ]; done) | (simp only [putAll, Act.put, List.setIfInBounds_toArray, List.set_cons_zero, List.set_cons_succ]; rfl)) (hJ1_8 (gb159) _ ⟨hHeld, BK146.out, BK152.out, BK159.out, GW159.out, GE159.out, NB146_159.out, NB159_146.out, NB152_159.out, NB159_152.out, HB.out⟩)
                      ·skip
                       refine box_step ?hg (N := 9) ?hd (cs := #[.int .i64 0, .int .i64 0]) (t := 45) ?hr ?_; (case hd => rfl); (case hg => rfl); (case hr => first | (go_simp; done) | (go_simp; rfl))
                       intro gb158 hg w25 hbox hb
                       have n0_ := Aside0.mk (blk_below (g := gb146) (o := .cells #[.int .i64 0, .int .i64 0] 45 (0, 0)) BK146.out hb)
                       have n1_ := Aside0.mk (blk_below (g := gb152) (o := .cells #[.int .i16 ((rd_T106 l0 x23_1).f0), .int .i16 ((rd_T106 l0 x23_1).f1), .int .i16 ((rd_T106 l0 x23_1).f2)] 106 (0, 0)) BK152.out hb)
                       have n2_ := Aside0.mk (blk_below (g := gb159) (o := .cells #[.int .i64 0, .int .i64 0] 45 (0, 0)) BK159.out hb)
                       have n3_ := Aside0.mk (below_step HB.out hb)
                       have n4_ := Aside0.mk (hbox)
                       have n5_ := Aside0.mk ((by rw [hg]; exact (below_size HB.out) : w.heap.size ≤ gb158))
                       have n6_ := n5_
                       have n7_ := Aside0.mk ((by rw [hg]; exact Nat.ne_of_lt (blk_lt (g := gb146) (o := .cells #[.int .i64 0, .int .i64 0] 45 (0, 0)) BK146.out) : gb146 ≠ gb158))
                       have n8_ := Aside0.mk (Ne.symm n7_.out)
                       have n9_ := Aside0.mk ((by rw [hg]; exact Nat.ne_of_lt (blk_lt (g := gb152) (o := .cells #[.int .i16 ((rd_T106 l0 x23_1).f0), .int .i16 ((rd_T106 l0 x23_1).f1), .int .i16 ((rd_T106 l0 x23_1).f2)] 106 (0, 0)) BK152.out) : gb152 ≠ gb158))
                       have n10_ := Aside0.mk (Ne.symm n9_.out)
                       have n11_ := Aside0.mk ((by rw [hg]; exact Nat.ne_of_lt (blk_lt (g := gb159) (o := .cells #[.int .i64 0, .int .i64 0] 45 (0, 0)) BK159.out) : gb159 ≠ gb158))
                       have n12_ := Aside0.mk (Ne.symm n11_.out)
                       clear BK146
                       clear BK152
                       clear BK159
                       clear HB
                       have BK146 := n0_
                       have BK152 := n1_
                       have BK159 := n2_
                       have HB := n3_
                       have BK158 := n4_
                       have GW158 := n5_
                       have GE158 := n6_
                       have NB146_158 := n7_
                       have NB158_146 := n8_
                       have NB152_158 := n9_
                       have NB158_152 := n10_
                       have NB159_158 := n11_
                       have NB158_159 := n12_
                       clear n0_ n1_ n2_ n3_ n4_ n5_ n6_ n7_ n8_ n9_ n10_ n11_ n12_
                       clear hb hbox hg
                       refine hK.out _ _ ⟨(blk_cell BK152.out 0).trans rfl, (blk_cell BK152.out 1).trans rfl, (blk_cell BK152.out 2).trans rfl, ((HB.out.cell (World.block_lt_of_cell? w _ hw155_0)).trans hw155_0), ((HB.out.cell (World.block_lt_of_cell? w _ hw155_1)).trans hw155_1), ((HB.out.cell (World.block_lt_of_cell? w _ hw155_2)).trans hw155_2)⟩ (fun hHeld => ?_)
                       clear hK K
                       refine norm_ (a' := ?_) ?_ ?_
                       rotate_left
                       ·show Act.put _ (some 9) _ = _
                        simp only [Act.put, List.setIfInBounds_toArray, List.set_cons_zero, List.set_cons_succ, i64_w, i32_w]
                        rfl
                       exact norm_ (by first | (simp only [putAll, Act.put, List.setIfInBounds_toArray, List.set_cons_zero, List.set_cons_succ]; done) | (simp only [putAll, Act.put, List.setIfInBounds_toArray, List.set_cons_zero, List.set_cons_succ]; rfl)) (hJ7_8 (gb158, gb159) _ ⟨hHeld, BK146.out, BK152.out, BK158.out, BK159.out, GW158.out, GE158.out, NB146_158.out, NB158_146.out, NB152_158.out, NB158_152.out, NB159_158.out, NB158_159.out, GW159.out, GE159.out, NB146_159.out, NB159_146.out, NB152_159.out, NB159_152.out, HB.out⟩)
                    ·skip
                     rintro gb158 w24 ⟨hS_, h0_, h1_, h2_, h3_, h4_, h5_, h6_, h7_, h8_, h9_⟩
                     have n0_ : Aside0 (w24.heap[gb146]? = some (.cells #[.int .i64 0, .int .i64 0] 45 (0, 0))) := ⟨h0_⟩
                     have n1_ : Aside0 (w24.heap[gb152]? = some (.cells #[.int .i16 ((rd_T106 l0 x23_1).f0), .int .i16 ((rd_T106 l0 x23_1).f1), .int .i16 ((rd_T106 l0 x23_1).f2)] 106 (0, 0))) := ⟨h1_⟩
                     have n2_ : Aside0 (w24.heap[gb158]? = some (.cells #[.int .i64 0, .int .i64 0] 45 (0, 0))) := ⟨h2_⟩
                     have n3_ : Aside0 (w.heap.size ≤ gb158) := ⟨h3_⟩
                     have n4_ : Aside0 (w.heap.size ≤ gb158) := ⟨h4_⟩
                     have n5_ : Aside0 (gb146 ≠ gb158) := ⟨h5_⟩
                     have n6_ : Aside0 (gb158 ≠ gb146) := ⟨h6_⟩
                     have n7_ : Aside0 (gb152 ≠ gb158) := ⟨h7_⟩
                     have n8_ : Aside0 (gb158 ≠ gb152) := ⟨h8_⟩
                     have n9_ : Aside0 (Below w.heap.size w w24) := ⟨h9_⟩
                     clear BK146
                     clear BK152
                     clear HB
                     clear h0_ h1_ h2_ h3_ h4_ h5_ h6_ h7_ h8_ h9_
                     have BK146 := n0_
                     have BK152 := n1_
                     have BK158 := n2_
                     have GW158 := n3_
                     have GE158 := n4_
                     have NB146_158 := n5_
                     have NB158_146 := n6_
                     have NB152_158 := n7_
                     have NB158_152 := n8_
                     have HB := n9_
                     clear n0_ n1_ n2_ n3_ n4_ n5_ n6_ n7_ n8_ n9_
                     have hHeld : w24.cell? ⟨gb152, 0, none⟩ = some (.int .i16 ((rd_T106 l0 x23_1).f0)) ∧ w24.cell? ⟨gb152, 1, none⟩ = some (.int .i16 ((rd_T106 l0 x23_1).f1)) ∧ w24.cell? ⟨gb152, 2, none⟩ = some (.int .i16 ((rd_T106 l0 x23_1).f2)) ∧ w24.cell? (ad151.add ((x6_1).toNat * 3)) = some (.int .i16 ((rd_T106 l0 x6_1).f0)) ∧ w24.cell? ⟨(ad151.add ((x6_1).toNat * 3)).block, (ad151.add ((x6_1).toNat * 3)).off + 1, none⟩ = some (.int .i16 ((rd_T106 l0 x6_1).f1)) ∧ w24.cell? ⟨(ad151.add ((x6_1).toNat * 3)).block, (ad151.add ((x6_1).toNat * 3)).off + 2, none⟩ = some (.int .i16 ((rd_T106 l0 x6_1).f2)) := hS_
                     refine norm_ (a' := ?_) ?_ ?_
                     rotate_left
                     ·simp only [putAll, Act.put, List.setIfInBounds_toArray, List.set_cons_zero, List.set_cons_succ]
                      rfl
                     refine two_ (i := 1) (j := 8) (Ni := some 29) (Nj := some 10) #[true, true, true, true, true, true, false, true, false, false, false] #[true, false, true, true, true, true, false, true, true, false, false] rfl rfl rfl rfl (two_of HT_.out (by kernel_rfl)) (by decide) (by decide) (fun K hK => ?_) (fun K hK => ?_)
                     ·skip
                      refine goes_ Try.func82 (by kernel_rfl) rfl #[.agg #[.int .i16 ((rd_T106 l0 x23_1).f0), .int .i16 ((rd_T106 l0 x23_1).f1), .int .i16 ((rd_T106 l0 x23_1).f2)]] (by rfl) rfl rfl (by (try simp only [List.map_toArray, List.map_cons, List.map_nil]); first | done | rfl | (simp only [List.length_drop, List.length_take]; rfl)) ?_
                      with_reducible refine (impl_Yarn_count.calls k1 ((rd_T106 l0 x23_1).f0) ((rd_T106 l0 x23_1).f1) ((rd_T106 l0 x23_1).f2) t153 t154 _ A13.out).mono ?_
                      rintro e w25 ⟨rfl, hb⟩
                      refine ⟨_, rfl, ?_⟩
                      have n0_ := Aside0.mk (blk_below (g := gb146) (o := .cells #[.int .i64 0, .int .i64 0] 45 (0, 0)) BK146.out hb)
                      have n1_ := Aside0.mk (blk_below (g := gb152) (o := .cells #[.int .i16 ((rd_T106 l0 x23_1).f0), .int .i16 ((rd_T106 l0 x23_1).f1), .int .i16 ((rd_T106 l0 x23_1).f2)] 106 (0, 0)) BK152.out hb)
                      have n2_ := Aside0.mk (blk_below (g := gb158) (o := .cells #[.int .i64 0, .int .i64 0] 45 (0, 0)) BK158.out hb)
                      have n3_ := Aside0.mk (below_step HB.out hb)
                      clear BK146
                      clear BK152
                      clear BK158
                      clear HB
                      have BK146 := n0_
                      have BK152 := n1_
                      have BK158 := n2_
                      have HB := n3_
                      clear n0_ n1_ n2_ n3_
                      (try clear hb)
                      (try clear hb2)
                      (try clear hk)
                      (try clear hi)
                      refine hK.out _ _ ⟨(blk_cell BK152.out 0).trans rfl, (blk_cell BK152.out 1).trans rfl, (blk_cell BK152.out 2).trans rfl, ((HB.out.cell (World.block_lt_of_cell? w _ hw155_0)).trans hw155_0), ((HB.out.cell (World.block_lt_of_cell? w _ hw155_1)).trans hw155_1), ((HB.out.cell (World.block_lt_of_cell? w _ hw155_2)).trans hw155_2)⟩ (fun hHeld => ?_)
                      clear hK K
                      refine norm_ (a' := ?_) ?_ ?_
                      rotate_left
                      ·show Act.put _ (some 29) _ = _
                       simp only [Act.put, List.setIfInBounds_toArray, List.set_cons_zero, List.set_cons_succ, i64_w, i32_w]
                       rfl
                      exact norm_ (by first | (simp only [putAll, Act.put, List.setIfInBounds_toArray, List.set_cons_zero, List.set_cons_succ]; done) | (simp only [putAll, Act.put, List.setIfInBounds_toArray, List.set_cons_zero, List.set_cons_succ]; rfl)) (hJ1_7 (gb158) _ ⟨hHeld, BK146.out, BK152.out, BK158.out, GW158.out, GE158.out, NB146_158.out, NB158_146.out, NB152_158.out, NB158_152.out, HB.out⟩)
                     ·skip
                      refine box_step ?hg (N := 10) ?hd (cs := #[.int .i64 0, .int .i64 0]) (t := 45) ?hr ?_; (case hd => rfl); (case hg => rfl); (case hr => first | (go_simp; done) | (go_simp; rfl))
                      intro gb159 hg w25 hbox hb
                      have n0_ := Aside0.mk (blk_below (g := gb146) (o := .cells #[.int .i64 0, .int .i64 0] 45 (0, 0)) BK146.out hb)
                      have n1_ := Aside0.mk (blk_below (g := gb152) (o := .cells #[.int .i16 ((rd_T106 l0 x23_1).f0), .int .i16 ((rd_T106 l0 x23_1).f1), .int .i16 ((rd_T106 l0 x23_1).f2)] 106 (0, 0)) BK152.out hb)
                      have n2_ := Aside0.mk (blk_below (g := gb158) (o := .cells #[.int .i64 0, .int .i64 0] 45 (0, 0)) BK158.out hb)
                      have n3_ := Aside0.mk (below_step HB.out hb)
                      have n4_ := Aside0.mk (hbox)
                      have n5_ := Aside0.mk ((by rw [hg]; exact (below_size HB.out) : w.heap.size ≤ gb159))
                      have n6_ := n5_
                      have n7_ := Aside0.mk ((by rw [hg]; exact Nat.ne_of_lt (blk_lt (g := gb146) (o := .cells #[.int .i64 0, .int .i64 0] 45 (0, 0)) BK146.out) : gb146 ≠ gb159))
                      have n8_ := Aside0.mk (Ne.symm n7_.out)
                      have n9_ := Aside0.mk ((by rw [hg]; exact Nat.ne_of_lt (blk_lt (g := gb152) (o := .cells #[.int .i16 ((rd_T106 l0 x23_1).f0), .int .i16 ((rd_T106 l0 x23_1).f1), .int .i16 ((rd_T106 l0 x23_1).f2)] 106 (0, 0)) BK152.out) : gb152 ≠ gb159))
                      have n10_ := Aside0.mk (Ne.symm n9_.out)
                      have n11_ := Aside0.mk ((by rw [hg]; exact Nat.ne_of_lt (blk_lt (g := gb158) (o := .cells #[.int .i64 0, .int .i64 0] 45 (0, 0)) BK158.out) : gb158 ≠ gb159))
                      have n12_ := Aside0.mk (Ne.symm n11_.out)
                      clear BK146
                      clear BK152
                      clear BK158
                      clear HB
                      have BK146 := n0_
                      have BK152 := n1_
                      have BK158 := n2_
                      have HB := n3_
                      have BK159 := n4_
                      have GW159 := n5_
                      have GE159 := n6_
                      have NB146_159 := n7_
                      have NB159_146 := n8_
                      have NB152_159 := n9_
                      have NB159_152 := n10_
                      have NB158_159 := n11_
                      have NB159_158 := n12_
                      clear n0_ n1_ n2_ n3_ n4_ n5_ n6_ n7_ n8_ n9_ n10_ n11_ n12_
                      clear hb hbox hg
                      refine hK.out _ _ ⟨(blk_cell BK152.out 0).trans rfl, (blk_cell BK152.out 1).trans rfl, (blk_cell BK152.out 2).trans rfl, ((HB.out.cell (World.block_lt_of_cell? w _ hw155_0)).trans hw155_0), ((HB.out.cell (World.block_lt_of_cell? w _ hw155_1)).trans hw155_1), ((HB.out.cell (World.block_lt_of_cell? w _ hw155_2)).trans hw155_2)⟩ (fun hHeld => ?_)
                      clear hK K
                      refine norm_ (a' := ?_) ?_ ?_
                      rotate_left
                      ·show Act.put _ (some 10) _ = _
                       simp only [Act.put, List.setIfInBounds_toArray, List.set_cons_zero, List.set_cons_succ, i64_w, i32_w]
                       rfl
                      exact norm_ (by first | (simp only [putAll, Act.put, List.setIfInBounds_toArray, List.set_cons_zero, List.set_cons_succ]; done) | (simp only [putAll, Act.put, List.setIfInBounds_toArray, List.set_cons_zero, List.set_cons_succ]; rfl)) (hJ7_8 (gb158, gb159) _ ⟨hHeld, BK146.out, BK152.out, BK158.out, BK159.out, GW158.out, GE158.out, NB146_158.out, NB158_146.out, NB152_158.out, NB158_152.out, NB159_158.out, NB158_159.out, GW159.out, GE159.out, NB146_159.out, NB159_146.out, NB152_159.out, NB159_152.out, HB.out⟩)
                   ·skip
                    rintro _ w24 ⟨hS_, h0_, h1_, h2_⟩
                    have n0_ : Aside0 (w24.heap[gb146]? = some (.cells #[.int .i64 0, .int .i64 0] 45 (0, 0))) := ⟨h0_⟩
                    have n1_ : Aside0 (w24.heap[gb152]? = some (.cells #[.int .i16 ((rd_T106 l0 x23_1).f0), .int .i16 ((rd_T106 l0 x23_1).f1), .int .i16 ((rd_T106 l0 x23_1).f2)] 106 (0, 0))) := ⟨h1_⟩
                    have n2_ : Aside0 (Below w.heap.size w w24) := ⟨h2_⟩
                    clear BK146
                    clear BK152
                    clear HB
                    clear h0_ h1_ h2_
                    have BK146 := n0_
                    have BK152 := n1_
                    have HB := n2_
                    clear n0_ n1_ n2_
                    have hHeld : w24.cell? ⟨gb152, 0, none⟩ = some (.int .i16 ((rd_T106 l0 x23_1).f0)) ∧ w24.cell? ⟨gb152, 1, none⟩ = some (.int .i16 ((rd_T106 l0 x23_1).f1)) ∧ w24.cell? ⟨gb152, 2, none⟩ = some (.int .i16 ((rd_T106 l0 x23_1).f2)) ∧ w24.cell? (ad151.add ((x6_1).toNat * 3)) = some (.int .i16 ((rd_T106 l0 x6_1).f0)) ∧ w24.cell? ⟨(ad151.add ((x6_1).toNat * 3)).block, (ad151.add ((x6_1).toNat * 3)).off + 1, none⟩ = some (.int .i16 ((rd_T106 l0 x6_1).f1)) ∧ w24.cell? ⟨(ad151.add ((x6_1).toNat * 3)).block, (ad151.add ((x6_1).toNat * 3)).off + 2, none⟩ = some (.int .i16 ((rd_T106 l0 x6_1).f2)) := hS_
                    refine norm_ (a' := ?_) ?_ ?_
                    rotate_left
                    ·simp only [putAll, Act.put, List.setIfInBounds_toArray, List.set_cons_zero, List.set_cons_succ]
                     rfl
                    refine three_ (i := 6) (j := 7) (k := 8) (Ni := some 34) (Nj := some 9) (Nk := some 10) #[true, true, true, true, true, true, true, false, false, false, false] #[true, true, true, true, true, true, false, true, false, false, false] #[true, true, true, true, true, true, false, false, true, false, false] rfl rfl rfl rfl rfl rfl (three_of HT_.out (by kernel_rfl)) (by decide) (by decide) (by decide) (fun K hK => ?_) (fun K hK => ?_) (fun K hK => ?_)
                    ·skip
                     refine goes_ Try.func82 (by kernel_rfl) rfl #[.agg #[.int .i16 ((rd_T106 l0 x6_1).f0), .int .i16 ((rd_T106 l0 x6_1).f1), .int .i16 ((rd_T106 l0 x6_1).f2)]] (by rfl) rfl rfl (by (try simp only [List.map_toArray, List.map_cons, List.map_nil]); first | done | rfl | (simp only [List.length_drop, List.length_take]; rfl)) ?_
                     with_reducible refine (impl_Yarn_count.calls k1 ((rd_T106 l0 x6_1).f0) ((rd_T106 l0 x6_1).f1) ((rd_T106 l0 x6_1).f2) t156 t157 _ A16.out).mono ?_
                     rintro e w25 ⟨rfl, hb⟩
                     refine ⟨_, rfl, ?_⟩
                     have n0_ := Aside0.mk (blk_below (g := gb146) (o := .cells #[.int .i64 0, .int .i64 0] 45 (0, 0)) BK146.out hb)
                     have n1_ := Aside0.mk (blk_below (g := gb152) (o := .cells #[.int .i16 ((rd_T106 l0 x23_1).f0), .int .i16 ((rd_T106 l0 x23_1).f1), .int .i16 ((rd_T106 l0 x23_1).f2)] 106 (0, 0)) BK152.out hb)
                     have n2_ := Aside0.mk (below_step HB.out hb)
                     clear BK146
                     clear BK152
                     clear HB
                     have BK146 := n0_
                     have BK152 := n1_
                     have HB := n2_
                     clear n0_ n1_ n2_
                     (try clear hb)
                     (try clear hb2)
                     (try clear hk)
                     (try clear hi)
                     refine hK.out _ _ ⟨(blk_cell BK152.out 0).trans rfl, (blk_cell BK152.out 1).trans rfl, (blk_cell BK152.out 2).trans rfl, ((HB.out.cell (World.block_lt_of_cell? w _ hw155_0)).trans hw155_0), ((HB.out.cell (World.block_lt_of_cell? w _ hw155_1)).trans hw155_1), ((HB.out.cell (World.block_lt_of_cell? w _ hw155_2)).trans hw155_2)⟩ (fun hHeld => ?_)
                     clear hK K
                     refine norm_ (a' := ?_) ?_ ?_
                     rotate_left
                     ·show Act.put _ (some 34) _ = _
                      simp only [Act.put, List.setIfInBounds_toArray, List.set_cons_zero, List.set_cons_succ, i64_w, i32_w]
                      rfl
                     exact norm_ (by first | (simp only [putAll, Act.put, List.setIfInBounds_toArray, List.set_cons_zero, List.set_cons_succ]; done) | (simp only [putAll, Act.put, List.setIfInBounds_toArray, List.set_cons_zero, List.set_cons_succ]; rfl)) (hJ1_6 () _ ⟨hHeld, BK146.out, BK152.out, HB.out⟩)
                    ·skip
                     refine box_step ?hg (N := 9) ?hd (cs := #[.int .i64 0, .int .i64 0]) (t := 45) ?hr ?_; (case hd => rfl); (case hg => rfl); (case hr => first | (go_simp; done) | (go_simp; rfl))
                     intro gb158 hg w25 hbox hb
                     have n0_ := Aside0.mk (blk_below (g := gb146) (o := .cells #[.int .i64 0, .int .i64 0] 45 (0, 0)) BK146.out hb)
                     have n1_ := Aside0.mk (blk_below (g := gb152) (o := .cells #[.int .i16 ((rd_T106 l0 x23_1).f0), .int .i16 ((rd_T106 l0 x23_1).f1), .int .i16 ((rd_T106 l0 x23_1).f2)] 106 (0, 0)) BK152.out hb)
                     have n2_ := Aside0.mk (below_step HB.out hb)
                     have n3_ := Aside0.mk (hbox)
                     have n4_ := Aside0.mk ((by rw [hg]; exact (below_size HB.out) : w.heap.size ≤ gb158))
                     have n5_ := n4_
                     have n6_ := Aside0.mk ((by rw [hg]; exact Nat.ne_of_lt (blk_lt (g := gb146) (o := .cells #[.int .i64 0, .int .i64 0] 45 (0, 0)) BK146.out) : gb146 ≠ gb158))
                     have n7_ := Aside0.mk (Ne.symm n6_.out)
                     have n8_ := Aside0.mk ((by rw [hg]; exact Nat.ne_of_lt (blk_lt (g := gb152) (o := .cells #[.int .i16 ((rd_T106 l0 x23_1).f0), .int .i16 ((rd_T106 l0 x23_1).f1), .int .i16 ((rd_T106 l0 x23_1).f2)] 106 (0, 0)) BK152.out) : gb152 ≠ gb158))
                     have n9_ := Aside0.mk (Ne.symm n8_.out)
                     clear BK146
                     clear BK152
                     clear HB
                     have BK146 := n0_
                     have BK152 := n1_
                     have HB := n2_
                     have BK158 := n3_
                     have GW158 := n4_
                     have GE158 := n5_
                     have NB146_158 := n6_
                     have NB158_146 := n7_
                     have NB152_158 := n8_
                     have NB158_152 := n9_
                     clear n0_ n1_ n2_ n3_ n4_ n5_ n6_ n7_ n8_ n9_
                     clear hb hbox hg
                     refine hK.out _ _ ⟨(blk_cell BK152.out 0).trans rfl, (blk_cell BK152.out 1).trans rfl, (blk_cell BK152.out 2).trans rfl, ((HB.out.cell (World.block_lt_of_cell? w _ hw155_0)).trans hw155_0), ((HB.out.cell (World.block_lt_of_cell? w _ hw155_1)).trans hw155_1), ((HB.out.cell (World.block_lt_of_cell? w _ hw155_2)).trans hw155_2)⟩ (fun hHeld => ?_)
                     clear hK K
                     refine norm_ (a' := ?_) ?_ ?_
                     rotate_left
                     ·show Act.put _ (some 9) _ = _
                      simp only [Act.put, List.setIfInBounds_toArray, List.set_cons_zero, List.set_cons_succ, i64_w, i32_w]
                      rfl
                     exact norm_ (by first | (simp only [putAll, Act.put, List.setIfInBounds_toArray, List.set_cons_zero, List.set_cons_succ]; done) | (simp only [putAll, Act.put, List.setIfInBounds_toArray, List.set_cons_zero, List.set_cons_succ]; rfl)) (hJ1_7 (gb158) _ ⟨hHeld, BK146.out, BK152.out, BK158.out, GW158.out, GE158.out, NB146_158.out, NB158_146.out, NB152_158.out, NB158_152.out, HB.out⟩)
                    ·skip
                     refine box_step ?hg (N := 10) ?hd (cs := #[.int .i64 0, .int .i64 0]) (t := 45) ?hr ?_; (case hd => rfl); (case hg => rfl); (case hr => first | (go_simp; done) | (go_simp; rfl))
                     intro gb159 hg w25 hbox hb
                     have n0_ := Aside0.mk (blk_below (g := gb146) (o := .cells #[.int .i64 0, .int .i64 0] 45 (0, 0)) BK146.out hb)
                     have n1_ := Aside0.mk (blk_below (g := gb152) (o := .cells #[.int .i16 ((rd_T106 l0 x23_1).f0), .int .i16 ((rd_T106 l0 x23_1).f1), .int .i16 ((rd_T106 l0 x23_1).f2)] 106 (0, 0)) BK152.out hb)
                     have n2_ := Aside0.mk (below_step HB.out hb)
                     have n3_ := Aside0.mk (hbox)
                     have n4_ := Aside0.mk ((by rw [hg]; exact (below_size HB.out) : w.heap.size ≤ gb159))
                     have n5_ := n4_
                     have n6_ := Aside0.mk ((by rw [hg]; exact Nat.ne_of_lt (blk_lt (g := gb146) (o := .cells #[.int .i64 0, .int .i64 0] 45 (0, 0)) BK146.out) : gb146 ≠ gb159))
                     have n7_ := Aside0.mk (Ne.symm n6_.out)
                     have n8_ := Aside0.mk ((by rw [hg]; exact Nat.ne_of_lt (blk_lt (g := gb152) (o := .cells #[.int .i16 ((rd_T106 l0 x23_1).f0), .int .i16 ((rd_T106 l0 x23_1).f1), .int .i16 ((rd_T106 l0 x23_1).f2)] 106 (0, 0)) BK152.out) : gb152 ≠ gb159))
                     have n9_ := Aside0.mk (Ne.symm n8_.out)
                     clear BK146
                     clear BK152
                     clear HB
                     have BK146 := n0_
                     have BK152 := n1_
                     have HB := n2_
                     have BK159 := n3_
                     have GW159 := n4_
                     have GE159 := n5_
                     have NB146_159 := n6_
                     have NB159_146 := n7_
                     have NB152_159 := n8_
                     have NB159_152 := n9_
                     clear n0_ n1_ n2_ n3_ n4_ n5_ n6_ n7_ n8_ n9_
                     clear hb hbox hg
                     refine hK.out _ _ ⟨(blk_cell BK152.out 0).trans rfl, (blk_cell BK152.out 1).trans rfl, (blk_cell BK152.out 2).trans rfl, ((HB.out.cell (World.block_lt_of_cell? w _ hw155_0)).trans hw155_0), ((HB.out.cell (World.block_lt_of_cell? w _ hw155_1)).trans hw155_1), ((HB.out.cell (World.block_lt_of_cell? w _ hw155_2)).trans hw155_2)⟩ (fun hHeld => ?_)
                     clear hK K
                     refine norm_ (a' := ?_) ?_ ?_
                     rotate_left
                     ·show Act.put _ (some 10) _ = _
                      simp only [Act.put, List.setIfInBounds_toArray, List.set_cons_zero, List.set_cons_succ, i64_w, i32_w]
                      rfl
                     exact norm_ (by first | (simp only [putAll, Act.put, List.setIfInBounds_toArray, List.set_cons_zero, List.set_cons_succ]; done) | (simp only [putAll, Act.put, List.setIfInBounds_toArray, List.set_cons_zero, List.set_cons_succ]; rfl)) (hJ1_8 (gb159) _ ⟨hHeld, BK146.out, BK152.out, BK159.out, GW159.out, GE159.out, NB146_159.out, NB159_146.out, NB152_159.out, NB159_152.out, HB.out⟩)
                  ·skip
                   rintro ⟨gb158, gb159⟩ w25 ⟨hS_, h0_, h1_, h2_, h3_, h4_, h5_, h6_, h7_, h8_, h9_, h10_, h11_, h12_, h13_, h14_, h15_, h16_, h17_, h18_⟩
                   have n0_ : Aside0 (w25.heap[gb146]? = some (.cells #[.int .i64 0, .int .i64 0] 45 (0, 0))) := ⟨h0_⟩
                   have n1_ : Aside0 (w25.heap[gb152]? = some (.cells #[.int .i16 ((rd_T106 l0 x23_1).f0), .int .i16 ((rd_T106 l0 x23_1).f1), .int .i16 ((rd_T106 l0 x23_1).f2)] 106 (0, 0))) := ⟨h1_⟩
                   have n2_ : Aside0 (w25.heap[gb158]? = some (.cells #[.int .i64 0, .int .i64 0] 45 (0, 0))) := ⟨h2_⟩
                   have n3_ : Aside0 (w25.heap[gb159]? = some (.cells #[.int .i64 0, .int .i64 0] 45 (0, 0))) := ⟨h3_⟩
                   have n4_ : Aside0 (w.heap.size ≤ gb158) := ⟨h4_⟩
                   have n5_ : Aside0 (w.heap.size ≤ gb158) := ⟨h5_⟩
                   have n6_ : Aside0 (gb146 ≠ gb158) := ⟨h6_⟩
                   have n7_ : Aside0 (gb158 ≠ gb146) := ⟨h7_⟩
                   have n8_ : Aside0 (gb152 ≠ gb158) := ⟨h8_⟩
                   have n9_ : Aside0 (gb158 ≠ gb152) := ⟨h9_⟩
                   have n10_ : Aside0 (gb159 ≠ gb158) := ⟨h10_⟩
                   have n11_ : Aside0 (gb158 ≠ gb159) := ⟨h11_⟩
                   have n12_ : Aside0 (w.heap.size ≤ gb159) := ⟨h12_⟩
                   have n13_ : Aside0 (w.heap.size ≤ gb159) := ⟨h13_⟩
                   have n14_ : Aside0 (gb146 ≠ gb159) := ⟨h14_⟩
                   have n15_ : Aside0 (gb159 ≠ gb146) := ⟨h15_⟩
                   have n16_ : Aside0 (gb152 ≠ gb159) := ⟨h16_⟩
                   have n17_ : Aside0 (gb159 ≠ gb152) := ⟨h17_⟩
                   have n18_ : Aside0 (Below w.heap.size w w25) := ⟨h18_⟩
                   clear BK146
                   clear BK152
                   clear HB
                   clear h0_ h1_ h2_ h3_ h4_ h5_ h6_ h7_ h8_ h9_ h10_ h11_ h12_ h13_ h14_ h15_ h16_ h17_ h18_
                   have BK146 := n0_
                   have BK152 := n1_
                   have BK158 := n2_
                   have BK159 := n3_
                   have GW158 := n4_
                   have GE158 := n5_
                   have NB146_158 := n6_
                   have NB158_146 := n7_
                   have NB152_158 := n8_
                   have NB158_152 := n9_
                   have NB159_158 := n10_
                   have NB158_159 := n11_
                   have GW159 := n12_
                   have GE159 := n13_
                   have NB146_159 := n14_
                   have NB159_146 := n15_
                   have NB152_159 := n16_
                   have NB159_152 := n17_
                   have HB := n18_
                   clear n0_ n1_ n2_ n3_ n4_ n5_ n6_ n7_ n8_ n9_ n10_ n11_ n12_ n13_ n14_ n15_ n16_ n17_ n18_
                   have hHeld : w25.cell? ⟨gb152, 0, none⟩ = some (.int .i16 ((rd_T106 l0 x23_1).f0)) ∧ w25.cell? ⟨gb152, 1, none⟩ = some (.int .i16 ((rd_T106 l0 x23_1).f1)) ∧ w25.cell? ⟨gb152, 2, none⟩ = some (.int .i16 ((rd_T106 l0 x23_1).f2)) ∧ w25.cell? (ad151.add ((x6_1).toNat * 3)) = some (.int .i16 ((rd_T106 l0 x6_1).f0)) ∧ w25.cell? ⟨(ad151.add ((x6_1).toNat * 3)).block, (ad151.add ((x6_1).toNat * 3)).off + 1, none⟩ = some (.int .i16 ((rd_T106 l0 x6_1).f1)) ∧ w25.cell? ⟨(ad151.add ((x6_1).toNat * 3)).block, (ad151.add ((x6_1).toNat * 3)).off + 2, none⟩ = some (.int .i16 ((rd_T106 l0 x6_1).f2)) := hS_
                   refine norm_ (a' := ?_) ?_ ?_
                   rotate_left
                   ·simp only [putAll, Act.put, List.setIfInBounds_toArray, List.set_cons_zero, List.set_cons_succ]
                    rfl
                   refine one_ (i := 1) (N := some 29) #[true, true, true, true, true, true, false, true, true, false, false] rfl rfl (one_of HT_.out (by kernel_rfl)) (by decide) (fun K hK => ?_)
                   refine goes_ Try.func82 (by kernel_rfl) rfl #[.agg #[.int .i16 ((rd_T106 l0 x23_1).f0), .int .i16 ((rd_T106 l0 x23_1).f1), .int .i16 ((rd_T106 l0 x23_1).f2)]] (by rfl) rfl rfl (by (try simp only [List.map_toArray, List.map_cons, List.map_nil]); first | done | rfl | (simp only [List.length_drop, List.length_take]; rfl)) ?_
                   with_reducible refine (impl_Yarn_count.calls k1 ((rd_T106 l0 x23_1).f0) ((rd_T106 l0 x23_1).f1) ((rd_T106 l0 x23_1).f2) t153 t154 _ A13.out).mono ?_
                   rintro e w26 ⟨rfl, hb⟩
                   refine ⟨_, rfl, ?_⟩
                   have n0_ := Aside0.mk (blk_below (g := gb146) (o := .cells #[.int .i64 0, .int .i64 0] 45 (0, 0)) BK146.out hb)
                   have n1_ := Aside0.mk (blk_below (g := gb152) (o := .cells #[.int .i16 ((rd_T106 l0 x23_1).f0), .int .i16 ((rd_T106 l0 x23_1).f1), .int .i16 ((rd_T106 l0 x23_1).f2)] 106 (0, 0)) BK152.out hb)
                   have n2_ := Aside0.mk (blk_below (g := gb158) (o := .cells #[.int .i64 0, .int .i64 0] 45 (0, 0)) BK158.out hb)
                   have n3_ := Aside0.mk (blk_below (g := gb159) (o := .cells #[.int .i64 0, .int .i64 0] 45 (0, 0)) BK159.out hb)
                   have n4_ := Aside0.mk (below_step HB.out hb)
                   clear BK146
                   clear BK152
                   clear BK158
                   clear BK159
                   clear HB
                   have BK146 := n0_
                   have BK152 := n1_
                   have BK158 := n2_
                   have BK159 := n3_
                   have HB := n4_
                   clear n0_ n1_ n2_ n3_ n4_
                   (try clear hb)
                   (try clear hb2)
                   (try clear hk)
                   (try clear hi)
                   refine hK.out _ _ ⟨(blk_cell BK152.out 0).trans rfl, (blk_cell BK152.out 1).trans rfl, (blk_cell BK152.out 2).trans rfl, ((HB.out.cell (World.block_lt_of_cell? w _ hw155_0)).trans hw155_0), ((HB.out.cell (World.block_lt_of_cell? w _ hw155_1)).trans hw155_1), ((HB.out.cell (World.block_lt_of_cell? w _ hw155_2)).trans hw155_2)⟩ (fun hHeld => ?_)
                   clear hK K
                   refine norm_ (a' := ?_) ?_ ?_
                   rotate_left
                   ·show Act.put _ (some 29) _ = _
                    simp only [Act.put, List.setIfInBounds_toArray, List.set_cons_zero, List.set_cons_succ, i64_w, i32_w]
                    rfl
                   exact norm_ (by first | (simp only [putAll, Act.put, List.setIfInBounds_toArray, List.set_cons_zero, List.set_cons_succ]; done) | (simp only [putAll, Act.put, List.setIfInBounds_toArray, List.set_cons_zero, List.set_cons_succ]; rfl)) (hJ1_7_8 (gb158, gb159) _ ⟨hHeld, BK146.out, BK152.out, BK158.out, BK159.out, GW158.out, GE158.out, NB146_158.out, NB158_146.out, NB152_158.out, NB158_152.out, NB159_158.out, NB158_159.out, GW159.out, GE159.out, NB146_159.out, NB159_146.out, NB152_159.out, NB159_152.out, HB.out⟩)
                 ·skip
                  rintro gb159 w25 ⟨hS_, h0_, h1_, h2_, h3_, h4_, h5_, h6_, h7_, h8_, h9_⟩
                  have n0_ : Aside0 (w25.heap[gb146]? = some (.cells #[.int .i64 0, .int .i64 0] 45 (0, 0))) := ⟨h0_⟩
                  have n1_ : Aside0 (w25.heap[gb152]? = some (.cells #[.int .i16 ((rd_T106 l0 x23_1).f0), .int .i16 ((rd_T106 l0 x23_1).f1), .int .i16 ((rd_T106 l0 x23_1).f2)] 106 (0, 0))) := ⟨h1_⟩
                  have n2_ : Aside0 (w25.heap[gb159]? = some (.cells #[.int .i64 0, .int .i64 0] 45 (0, 0))) := ⟨h2_⟩
                  have n3_ : Aside0 (w.heap.size ≤ gb159) := ⟨h3_⟩
                  have n4_ : Aside0 (w.heap.size ≤ gb159) := ⟨h4_⟩
                  have n5_ : Aside0 (gb146 ≠ gb159) := ⟨h5_⟩
                  have n6_ : Aside0 (gb159 ≠ gb146) := ⟨h6_⟩
                  have n7_ : Aside0 (gb152 ≠ gb159) := ⟨h7_⟩
                  have n8_ : Aside0 (gb159 ≠ gb152) := ⟨h8_⟩
                  have n9_ : Aside0 (Below w.heap.size w w25) := ⟨h9_⟩
                  clear BK146
                  clear BK152
                  clear HB
                  clear h0_ h1_ h2_ h3_ h4_ h5_ h6_ h7_ h8_ h9_
                  have BK146 := n0_
                  have BK152 := n1_
                  have BK159 := n2_
                  have GW159 := n3_
                  have GE159 := n4_
                  have NB146_159 := n5_
                  have NB159_146 := n6_
                  have NB152_159 := n7_
                  have NB159_152 := n8_
                  have HB := n9_
                  clear n0_ n1_ n2_ n3_ n4_ n5_ n6_ n7_ n8_ n9_
                  have hHeld : w25.cell? ⟨gb152, 0, none⟩ = some (.int .i16 ((rd_T106 l0 x23_1).f0)) ∧ w25.cell? ⟨gb152, 1, none⟩ = some (.int .i16 ((rd_T106 l0 x23_1).f1)) ∧ w25.cell? ⟨gb152, 2, none⟩ = some (.int .i16 ((rd_T106 l0 x23_1).f2)) ∧ w25.cell? (ad151.add ((x6_1).toNat * 3)) = some (.int .i16 ((rd_T106 l0 x6_1).f0)) ∧ w25.cell? ⟨(ad151.add ((x6_1).toNat * 3)).block, (ad151.add ((x6_1).toNat * 3)).off + 1, none⟩ = some (.int .i16 ((rd_T106 l0 x6_1).f1)) ∧ w25.cell? ⟨(ad151.add ((x6_1).toNat * 3)).block, (ad151.add ((x6_1).toNat * 3)).off + 2, none⟩ = some (.int .i16 ((rd_T106 l0 x6_1).f2)) := hS_
                  refine norm_ (a' := ?_) ?_ ?_
                  rotate_left
                  ·simp only [putAll, Act.put, List.setIfInBounds_toArray, List.set_cons_zero, List.set_cons_succ]
                   rfl
                  refine two_ (i := 6) (j := 7) (Ni := some 34) (Nj := some 9) #[true, true, true, true, true, true, true, false, true, false, false] #[true, true, true, true, true, true, false, true, true, false, false] rfl rfl rfl rfl (two_of HT_.out (by kernel_rfl)) (by decide) (by decide) (fun K hK => ?_) (fun K hK => ?_)
                  ·skip
                   refine goes_ Try.func82 (by kernel_rfl) rfl #[.agg #[.int .i16 ((rd_T106 l0 x6_1).f0), .int .i16 ((rd_T106 l0 x6_1).f1), .int .i16 ((rd_T106 l0 x6_1).f2)]] (by rfl) rfl rfl (by (try simp only [List.map_toArray, List.map_cons, List.map_nil]); first | done | rfl | (simp only [List.length_drop, List.length_take]; rfl)) ?_
                   with_reducible refine (impl_Yarn_count.calls k1 ((rd_T106 l0 x6_1).f0) ((rd_T106 l0 x6_1).f1) ((rd_T106 l0 x6_1).f2) t156 t157 _ A16.out).mono ?_
                   rintro e w26 ⟨rfl, hb⟩
                   refine ⟨_, rfl, ?_⟩
                   have n0_ := Aside0.mk (blk_below (g := gb146) (o := .cells #[.int .i64 0, .int .i64 0] 45 (0, 0)) BK146.out hb)
                   have n1_ := Aside0.mk (blk_below (g := gb152) (o := .cells #[.int .i16 ((rd_T106 l0 x23_1).f0), .int .i16 ((rd_T106 l0 x23_1).f1), .int .i16 ((rd_T106 l0 x23_1).f2)] 106 (0, 0)) BK152.out hb)
                   have n2_ := Aside0.mk (blk_below (g := gb159) (o := .cells #[.int .i64 0, .int .i64 0] 45 (0, 0)) BK159.out hb)
                   have n3_ := Aside0.mk (below_step HB.out hb)
                   clear BK146
                   clear BK152
                   clear BK159
                   clear HB
                   have BK146 := n0_
                   have BK152 := n1_
                   have BK159 := n2_
                   have HB := n3_
                   clear n0_ n1_ n2_ n3_
                   (try clear hb)
                   (try clear hb2)
                   (try clear hk)
                   (try clear hi)
                   refine hK.out _ _ ⟨(blk_cell BK152.out 0).trans rfl, (blk_cell BK152.out 1).trans rfl, (blk_cell BK152.out 2).trans rfl, ((HB.out.cell (World.block_lt_of_cell? w _ hw155_0)).trans hw155_0), ((HB.out.cell (World.block_lt_of_cell? w _ hw155_1)).trans hw155_1), ((HB.out.cell (World.block_lt_of_cell? w _ hw155_2)).trans hw155_2)⟩ (fun hHeld => ?_)
                   clear hK K
                   refine norm_ (a' := ?_) ?_ ?_
                   rotate_left
                   ·show Act.put _ (some 34) _ = _
                    simp only [Act.put, List.setIfInBounds_toArray, List.set_cons_zero, List.set_cons_succ, i64_w, i32_w]
                    rfl
                   exact norm_ (by first | (simp only [putAll, Act.put, List.setIfInBounds_toArray, List.set_cons_zero, List.set_cons_succ]; done) | (simp only [putAll, Act.put, List.setIfInBounds_toArray, List.set_cons_zero, List.set_cons_succ]; rfl)) (hJ1_6_8 (gb159) _ ⟨hHeld, BK146.out, BK152.out, BK159.out, GW159.out, GE159.out, NB146_159.out, NB159_146.out, NB152_159.out, NB159_152.out, HB.out⟩)
                  ·skip
                   refine box_step ?hg (N := 9) ?hd (cs := #[.int .i64 0, .int .i64 0]) (t := 45) ?hr ?_; (case hd => rfl); (case hg => rfl); (case hr => first | (go_simp; done) | (go_simp; rfl))
                   intro gb158 hg w26 hbox hb
                   have n0_ := Aside0.mk (blk_below (g := gb146) (o := .cells #[.int .i64 0, .int .i64 0] 45 (0, 0)) BK146.out hb)
                   have n1_ := Aside0.mk (blk_below (g := gb152) (o := .cells #[.int .i16 ((rd_T106 l0 x23_1).f0), .int .i16 ((rd_T106 l0 x23_1).f1), .int .i16 ((rd_T106 l0 x23_1).f2)] 106 (0, 0)) BK152.out hb)
                   have n2_ := Aside0.mk (blk_below (g := gb159) (o := .cells #[.int .i64 0, .int .i64 0] 45 (0, 0)) BK159.out hb)
                   have n3_ := Aside0.mk (below_step HB.out hb)
                   have n4_ := Aside0.mk (hbox)
                   have n5_ := Aside0.mk ((by rw [hg]; exact (below_size HB.out) : w.heap.size ≤ gb158))
                   have n6_ := n5_
                   have n7_ := Aside0.mk ((by rw [hg]; exact Nat.ne_of_lt (blk_lt (g := gb146) (o := .cells #[.int .i64 0, .int .i64 0] 45 (0, 0)) BK146.out) : gb146 ≠ gb158))
                   have n8_ := Aside0.mk (Ne.symm n7_.out)
                   have n9_ := Aside0.mk ((by rw [hg]; exact Nat.ne_of_lt (blk_lt (g := gb152) (o := .cells #[.int .i16 ((rd_T106 l0 x23_1).f0), .int .i16 ((rd_T106 l0 x23_1).f1), .int .i16 ((rd_T106 l0 x23_1).f2)] 106 (0, 0)) BK152.out) : gb152 ≠ gb158))
                   have n10_ := Aside0.mk (Ne.symm n9_.out)
                   have n11_ := Aside0.mk ((by rw [hg]; exact Nat.ne_of_lt (blk_lt (g := gb159) (o := .cells #[.int .i64 0, .int .i64 0] 45 (0, 0)) BK159.out) : gb159 ≠ gb158))
                   have n12_ := Aside0.mk (Ne.symm n11_.out)
                   clear BK146
                   clear BK152
                   clear BK159
                   clear HB
                   have BK146 := n0_
                   have BK152 := n1_
                   have BK159 := n2_
                   have HB := n3_
                   have BK158 := n4_
                   have GW158 := n5_
                   have GE158 := n6_
                   have NB146_158 := n7_
                   have NB158_146 := n8_
                   have NB152_158 := n9_
                   have NB158_152 := n10_
                   have NB159_158 := n11_
                   have NB158_159 := n12_
                   clear n0_ n1_ n2_ n3_ n4_ n5_ n6_ n7_ n8_ n9_ n10_ n11_ n12_
                   clear hb hbox hg
                   refine hK.out _ _ ⟨(blk_cell BK152.out 0).trans rfl, (blk_cell BK152.out 1).trans rfl, (blk_cell BK152.out 2).trans rfl, ((HB.out.cell (World.block_lt_of_cell? w _ hw155_0)).trans hw155_0), ((HB.out.cell (World.block_lt_of_cell? w _ hw155_1)).trans hw155_1), ((HB.out.cell (World.block_lt_of_cell? w _ hw155_2)).trans hw155_2)⟩ (fun hHeld => ?_)
                   clear hK K
                   refine norm_ (a' := ?_) ?_ ?_
                   rotate_left
                   ·show Act.put _ (some 9) _ = _
                    simp only [Act.put, List.setIfInBounds_toArray, List.set_cons_zero, List.set_cons_succ, i64_w, i32_w]
                    rfl
                   exact norm_ (by first | (simp only [putAll, Act.put, List.setIfInBounds_toArray, List.set_cons_zero, List.set_cons_succ]; done) | (simp only [putAll, Act.put, List.setIfInBounds_toArray, List.set_cons_zero, List.set_cons_succ]; rfl)) (hJ1_7_8 (gb158, gb159) _ ⟨hHeld, BK146.out, BK152.out, BK158.out, BK159.out, GW158.out, GE158.out, NB146_158.out, NB158_146.out, NB152_158.out, NB158_152.out, NB159_158.out, NB158_159.out, GW159.out, GE159.out, NB146_159.out, NB159_146.out, NB152_159.out, NB159_152.out, HB.out⟩)
                ·skip
                 rintro gb158 w25 ⟨hS_, h0_, h1_, h2_, h3_, h4_, h5_, h6_, h7_, h8_, h9_⟩
                 have n0_ : Aside0 (w25.heap[gb146]? = some (.cells #[.int .i64 0, .int .i64 0] 45 (0, 0))) := ⟨h0_⟩
                 have n1_ : Aside0 (w25.heap[gb152]? = some (.cells #[.int .i16 ((rd_T106 l0 x23_1).f0), .int .i16 ((rd_T106 l0 x23_1).f1), .int .i16 ((rd_T106 l0 x23_1).f2)] 106 (0, 0))) := ⟨h1_⟩
                 have n2_ : Aside0 (w25.heap[gb158]? = some (.cells #[.int .i64 0, .int .i64 0] 45 (0, 0))) := ⟨h2_⟩
                 have n3_ : Aside0 (w.heap.size ≤ gb158) := ⟨h3_⟩
                 have n4_ : Aside0 (w.heap.size ≤ gb158) := ⟨h4_⟩
                 have n5_ : Aside0 (gb146 ≠ gb158) := ⟨h5_⟩
                 have n6_ : Aside0 (gb158 ≠ gb146) := ⟨h6_⟩
                 have n7_ : Aside0 (gb152 ≠ gb158) := ⟨h7_⟩
                 have n8_ : Aside0 (gb158 ≠ gb152) := ⟨h8_⟩
                 have n9_ : Aside0 (Below w.heap.size w w25) := ⟨h9_⟩
                 clear BK146
                 clear BK152
                 clear HB
                 clear h0_ h1_ h2_ h3_ h4_ h5_ h6_ h7_ h8_ h9_
                 have BK146 := n0_
                 have BK152 := n1_
                 have BK158 := n2_
                 have GW158 := n3_
                 have GE158 := n4_
                 have NB146_158 := n5_
                 have NB158_146 := n6_
                 have NB152_158 := n7_
                 have NB158_152 := n8_
                 have HB := n9_
                 clear n0_ n1_ n2_ n3_ n4_ n5_ n6_ n7_ n8_ n9_
                 have hHeld : w25.cell? ⟨gb152, 0, none⟩ = some (.int .i16 ((rd_T106 l0 x23_1).f0)) ∧ w25.cell? ⟨gb152, 1, none⟩ = some (.int .i16 ((rd_T106 l0 x23_1).f1)) ∧ w25.cell? ⟨gb152, 2, none⟩ = some (.int .i16 ((rd_T106 l0 x23_1).f2)) ∧ w25.cell? (ad151.add ((x6_1).toNat * 3)) = some (.int .i16 ((rd_T106 l0 x6_1).f0)) ∧ w25.cell? ⟨(ad151.add ((x6_1).toNat * 3)).block, (ad151.add ((x6_1).toNat * 3)).off + 1, none⟩ = some (.int .i16 ((rd_T106 l0 x6_1).f1)) ∧ w25.cell? ⟨(ad151.add ((x6_1).toNat * 3)).block, (ad151.add ((x6_1).toNat * 3)).off + 2, none⟩ = some (.int .i16 ((rd_T106 l0 x6_1).f2)) := hS_
                 refine norm_ (a' := ?_) ?_ ?_
                 rotate_left
                 ·simp only [putAll, Act.put, List.setIfInBounds_toArray, List.set_cons_zero, List.set_cons_succ]
                  rfl
                 refine two_ (i := 6) (j := 8) (Ni := some 34) (Nj := some 10) #[true, true, true, true, true, true, true, true, false, false, false] #[true, true, true, true, true, true, false, true, true, false, false] rfl rfl rfl rfl (two_of HT_.out (by kernel_rfl)) (by decide) (by decide) (fun K hK => ?_) (fun K hK => ?_)
                 ·skip
                  refine goes_ Try.func82 (by kernel_rfl) rfl #[.agg #[.int .i16 ((rd_T106 l0 x6_1).f0), .int .i16 ((rd_T106 l0 x6_1).f1), .int .i16 ((rd_T106 l0 x6_1).f2)]] (by rfl) rfl rfl (by (try simp only [List.map_toArray, List.map_cons, List.map_nil]); first | done | rfl | (simp only [List.length_drop, List.length_take]; rfl)) ?_
                  with_reducible refine (impl_Yarn_count.calls k1 ((rd_T106 l0 x6_1).f0) ((rd_T106 l0 x6_1).f1) ((rd_T106 l0 x6_1).f2) t156 t157 _ A16.out).mono ?_
                  rintro e w26 ⟨rfl, hb⟩
                  refine ⟨_, rfl, ?_⟩
                  have n0_ := Aside0.mk (blk_below (g := gb146) (o := .cells #[.int .i64 0, .int .i64 0] 45 (0, 0)) BK146.out hb)
                  have n1_ := Aside0.mk (blk_below (g := gb152) (o := .cells #[.int .i16 ((rd_T106 l0 x23_1).f0), .int .i16 ((rd_T106 l0 x23_1).f1), .int .i16 ((rd_T106 l0 x23_1).f2)] 106 (0, 0)) BK152.out hb)
                  have n2_ := Aside0.mk (blk_below (g := gb158) (o := .cells #[.int .i64 0, .int .i64 0] 45 (0, 0)) BK158.out hb)
                  have n3_ := Aside0.mk (below_step HB.out hb)
                  clear BK146
                  clear BK152
                  clear BK158
                  clear HB
                  have BK146 := n0_
                  have BK152 := n1_
                  have BK158 := n2_
                  have HB := n3_
                  clear n0_ n1_ n2_ n3_
                  (try clear hb)
                  (try clear hb2)
                  (try clear hk)
                  (try clear hi)
                  refine hK.out _ _ ⟨(blk_cell BK152.out 0).trans rfl, (blk_cell BK152.out 1).trans rfl, (blk_cell BK152.out 2).trans rfl, ((HB.out.cell (World.block_lt_of_cell? w _ hw155_0)).trans hw155_0), ((HB.out.cell (World.block_lt_of_cell? w _ hw155_1)).trans hw155_1), ((HB.out.cell (World.block_lt_of_cell? w _ hw155_2)).trans hw155_2)⟩ (fun hHeld => ?_)
                  clear hK K
                  refine norm_ (a' := ?_) ?_ ?_
                  rotate_left
                  ·show Act.put _ (some 34) _ = _
                   simp only [Act.put, List.setIfInBounds_toArray, List.set_cons_zero, List.set_cons_succ, i64_w, i32_w]
                   rfl
                  exact norm_ (by first | (simp only [putAll, Act.put, List.setIfInBounds_toArray, List.set_cons_zero, List.set_cons_succ]; done) | (simp only [putAll, Act.put, List.setIfInBounds_toArray, List.set_cons_zero, List.set_cons_succ]; rfl)) (hJ1_6_7 (gb158) _ ⟨hHeld, BK146.out, BK152.out, BK158.out, GW158.out, GE158.out, NB146_158.out, NB158_146.out, NB152_158.out, NB158_152.out, HB.out⟩)
                 ·skip
                  refine box_step ?hg (N := 10) ?hd (cs := #[.int .i64 0, .int .i64 0]) (t := 45) ?hr ?_; (case hd => rfl); (case hg => rfl); (case hr => first | (go_simp; done) | (go_simp; rfl))
                  intro gb159 hg w26 hbox hb
                  have n0_ := Aside0.mk (blk_below (g := gb146) (o := .cells #[.int .i64 0, .int .i64 0] 45 (0, 0)) BK146.out hb)
                  have n1_ := Aside0.mk (blk_below (g := gb152) (o := .cells #[.int .i16 ((rd_T106 l0 x23_1).f0), .int .i16 ((rd_T106 l0 x23_1).f1), .int .i16 ((rd_T106 l0 x23_1).f2)] 106 (0, 0)) BK152.out hb)
                  have n2_ := Aside0.mk (blk_below (g := gb158) (o := .cells #[.int .i64 0, .int .i64 0] 45 (0, 0)) BK158.out hb)
                  have n3_ := Aside0.mk (below_step HB.out hb)
                  have n4_ := Aside0.mk (hbox)
                  have n5_ := Aside0.mk ((by rw [hg]; exact (below_size HB.out) : w.heap.size ≤ gb159))
                  have n6_ := n5_
                  have n7_ := Aside0.mk ((by rw [hg]; exact Nat.ne_of_lt (blk_lt (g := gb146) (o := .cells #[.int .i64 0, .int .i64 0] 45 (0, 0)) BK146.out) : gb146 ≠ gb159))
                  have n8_ := Aside0.mk (Ne.symm n7_.out)
                  have n9_ := Aside0.mk ((by rw [hg]; exact Nat.ne_of_lt (blk_lt (g := gb152) (o := .cells #[.int .i16 ((rd_T106 l0 x23_1).f0), .int .i16 ((rd_T106 l0 x23_1).f1), .int .i16 ((rd_T106 l0 x23_1).f2)] 106 (0, 0)) BK152.out) : gb152 ≠ gb159))
                  have n10_ := Aside0.mk (Ne.symm n9_.out)
                  have n11_ := Aside0.mk ((by rw [hg]; exact Nat.ne_of_lt (blk_lt (g := gb158) (o := .cells #[.int .i64 0, .int .i64 0] 45 (0, 0)) BK158.out) : gb158 ≠ gb159))
                  have n12_ := Aside0.mk (Ne.symm n11_.out)
                  clear BK146
                  clear BK152
                  clear BK158
                  clear HB
                  have BK146 := n0_
                  have BK152 := n1_
                  have BK158 := n2_
                  have HB := n3_
                  have BK159 := n4_
                  have GW159 := n5_
                  have GE159 := n6_
                  have NB146_159 := n7_
                  have NB159_146 := n8_
                  have NB152_159 := n9_
                  have NB159_152 := n10_
                  have NB158_159 := n11_
                  have NB159_158 := n12_
                  clear n0_ n1_ n2_ n3_ n4_ n5_ n6_ n7_ n8_ n9_ n10_ n11_ n12_
                  clear hb hbox hg
                  refine hK.out _ _ ⟨(blk_cell BK152.out 0).trans rfl, (blk_cell BK152.out 1).trans rfl, (blk_cell BK152.out 2).trans rfl, ((HB.out.cell (World.block_lt_of_cell? w _ hw155_0)).trans hw155_0), ((HB.out.cell (World.block_lt_of_cell? w _ hw155_1)).trans hw155_1), ((HB.out.cell (World.block_lt_of_cell? w _ hw155_2)).trans hw155_2)⟩ (fun hHeld => ?_)
                  clear hK K
                  refine norm_ (a' := ?_) ?_ ?_
                  rotate_left
                  ·show Act.put _ (some 10) _ = _
                   simp only [Act.put, List.setIfInBounds_toArray, List.set_cons_zero, List.set_cons_succ, i64_w, i32_w]
                   rfl
                  exact norm_ (by first | (simp only [putAll, Act.put, List.setIfInBounds_toArray, List.set_cons_zero, List.set_cons_succ]; done) | (simp only [putAll, Act.put, List.setIfInBounds_toArray, List.set_cons_zero, List.set_cons_succ]; rfl)) (hJ1_7_8 (gb158, gb159) _ ⟨hHeld, BK146.out, BK152.out, BK158.out, BK159.out, GW158.out, GE158.out, NB146_158.out, NB158_146.out, NB152_158.out, NB158_152.out, NB159_158.out, NB158_159.out, GW159.out, GE159.out, NB146_159.out, NB159_146.out, NB152_159.out, NB159_152.out, HB.out⟩)
               ·skip
                rintro _ w25 ⟨hS_, h0_, h1_, h2_⟩
                have n0_ : Aside0 (w25.heap[gb146]? = some (.cells #[.int .i64 0, .int .i64 0] 45 (0, 0))) := ⟨h0_⟩
                have n1_ : Aside0 (w25.heap[gb152]? = some (.cells #[.int .i16 ((rd_T106 l0 x23_1).f0), .int .i16 ((rd_T106 l0 x23_1).f1), .int .i16 ((rd_T106 l0 x23_1).f2)] 106 (0, 0))) := ⟨h1_⟩
                have n2_ : Aside0 (Below w.heap.size w w25) := ⟨h2_⟩
                clear BK146
                clear BK152
                clear HB
                clear h0_ h1_ h2_
                have BK146 := n0_
                have BK152 := n1_
                have HB := n2_
                clear n0_ n1_ n2_
                have hHeld : w25.cell? ⟨gb152, 0, none⟩ = some (.int .i16 ((rd_T106 l0 x23_1).f0)) ∧ w25.cell? ⟨gb152, 1, none⟩ = some (.int .i16 ((rd_T106 l0 x23_1).f1)) ∧ w25.cell? ⟨gb152, 2, none⟩ = some (.int .i16 ((rd_T106 l0 x23_1).f2)) ∧ w25.cell? (ad151.add ((x6_1).toNat * 3)) = some (.int .i16 ((rd_T106 l0 x6_1).f0)) ∧ w25.cell? ⟨(ad151.add ((x6_1).toNat * 3)).block, (ad151.add ((x6_1).toNat * 3)).off + 1, none⟩ = some (.int .i16 ((rd_T106 l0 x6_1).f1)) ∧ w25.cell? ⟨(ad151.add ((x6_1).toNat * 3)).block, (ad151.add ((x6_1).toNat * 3)).off + 2, none⟩ = some (.int .i16 ((rd_T106 l0 x6_1).f2)) := hS_
                refine norm_ (a' := ?_) ?_ ?_
                rotate_left
                ·simp only [putAll, Act.put, List.setIfInBounds_toArray, List.set_cons_zero, List.set_cons_succ]
                 rfl
                refine two_ (i := 7) (j := 8) (Ni := some 9) (Nj := some 10) #[true, true, true, true, true, true, true, true, false, false, false] #[true, true, true, true, true, true, true, false, true, false, false] rfl rfl rfl rfl (two_of HT_.out (by kernel_rfl)) (by decide) (by decide) (fun K hK => ?_) (fun K hK => ?_)
                ·skip
                 refine box_step ?hg (N := 9) ?hd (cs := #[.int .i64 0, .int .i64 0]) (t := 45) ?hr ?_; (case hd => rfl); (case hg => rfl); (case hr => first | (go_simp; done) | (go_simp; rfl))
                 intro gb158 hg w26 hbox hb
                 have n0_ := Aside0.mk (blk_below (g := gb146) (o := .cells #[.int .i64 0, .int .i64 0] 45 (0, 0)) BK146.out hb)
                 have n1_ := Aside0.mk (blk_below (g := gb152) (o := .cells #[.int .i16 ((rd_T106 l0 x23_1).f0), .int .i16 ((rd_T106 l0 x23_1).f1), .int .i16 ((rd_T106 l0 x23_1).f2)] 106 (0, 0)) BK152.out hb)
                 have n2_ := Aside0.mk (below_step HB.out hb)
                 have n3_ := Aside0.mk (hbox)
                 have n4_ := Aside0.mk ((by rw [hg]; exact (below_size HB.out) : w.heap.size ≤ gb158))
                 have n5_ := n4_
                 have n6_ := Aside0.mk ((by rw [hg]; exact Nat.ne_of_lt (blk_lt (g := gb146) (o := .cells #[.int .i64 0, .int .i64 0] 45 (0, 0)) BK146.out) : gb146 ≠ gb158))
                 have n7_ := Aside0.mk (Ne.symm n6_.out)
                 have n8_ := Aside0.mk ((by rw [hg]; exact Nat.ne_of_lt (blk_lt (g := gb152) (o := .cells #[.int .i16 ((rd_T106 l0 x23_1).f0), .int .i16 ((rd_T106 l0 x23_1).f1), .int .i16 ((rd_T106 l0 x23_1).f2)] 106 (0, 0)) BK152.out) : gb152 ≠ gb158))
                 have n9_ := Aside0.mk (Ne.symm n8_.out)
                 clear BK146
                 clear BK152
                 clear HB
                 have BK146 := n0_
                 have BK152 := n1_
                 have HB := n2_
                 have BK158 := n3_
                 have GW158 := n4_
                 have GE158 := n5_
                 have NB146_158 := n6_
                 have NB158_146 := n7_
                 have NB152_158 := n8_
                 have NB158_152 := n9_
                 clear n0_ n1_ n2_ n3_ n4_ n5_ n6_ n7_ n8_ n9_
                 clear hb hbox hg
                 refine hK.out _ _ ⟨(blk_cell BK152.out 0).trans rfl, (blk_cell BK152.out 1).trans rfl, (blk_cell BK152.out 2).trans rfl, ((HB.out.cell (World.block_lt_of_cell? w _ hw155_0)).trans hw155_0), ((HB.out.cell (World.block_lt_of_cell? w _ hw155_1)).trans hw155_1), ((HB.out.cell (World.block_lt_of_cell? w _ hw155_2)).trans hw155_2)⟩ (fun hHeld => ?_)
                 clear hK K
                 refine norm_ (a' := ?_) ?_ ?_
                 rotate_left
                 ·show Act.put _ (some 9) _ = _
                  simp only [Act.put, List.setIfInBounds_toArray, List.set_cons_zero, List.set_cons_succ, i64_w, i32_w]
                  rfl
                 exact norm_ (by first | (simp only [putAll, Act.put, List.setIfInBounds_toArray, List.set_cons_zero, List.set_cons_succ]; done) | (simp only [putAll, Act.put, List.setIfInBounds_toArray, List.set_cons_zero, List.set_cons_succ]; rfl)) (hJ1_6_7 (gb158) _ ⟨hHeld, BK146.out, BK152.out, BK158.out, GW158.out, GE158.out, NB146_158.out, NB158_146.out, NB152_158.out, NB158_152.out, HB.out⟩)
                ·skip
                 refine box_step ?hg (N := 10) ?hd (cs := #[.int .i64 0, .int .i64 0]) (t := 45) ?hr ?_; (case hd => rfl); (case hg => rfl); (case hr => first | (go_simp; done) | (go_simp; rfl))
                 intro gb159 hg w26 hbox hb
                 have n0_ := Aside0.mk (blk_below (g := gb146) (o := .cells #[.int .i64 0, .int .i64 0] 45 (0, 0)) BK146.out hb)
                 have n1_ := Aside0.mk (blk_below (g := gb152) (o := .cells #[.int .i16 ((rd_T106 l0 x23_1).f0), .int .i16 ((rd_T106 l0 x23_1).f1), .int .i16 ((rd_T106 l0 x23_1).f2)] 106 (0, 0)) BK152.out hb)
                 have n2_ := Aside0.mk (below_step HB.out hb)
                 have n3_ := Aside0.mk (hbox)
                 have n4_ := Aside0.mk ((by rw [hg]; exact (below_size HB.out) : w.heap.size ≤ gb159))
                 have n5_ := n4_
                 have n6_ := Aside0.mk ((by rw [hg]; exact Nat.ne_of_lt (blk_lt (g := gb146) (o := .cells #[.int .i64 0, .int .i64 0] 45 (0, 0)) BK146.out) : gb146 ≠ gb159))
                 have n7_ := Aside0.mk (Ne.symm n6_.out)
                 have n8_ := Aside0.mk ((by rw [hg]; exact Nat.ne_of_lt (blk_lt (g := gb152) (o := .cells #[.int .i16 ((rd_T106 l0 x23_1).f0), .int .i16 ((rd_T106 l0 x23_1).f1), .int .i16 ((rd_T106 l0 x23_1).f2)] 106 (0, 0)) BK152.out) : gb152 ≠ gb159))
                 have n9_ := Aside0.mk (Ne.symm n8_.out)
                 clear BK146
                 clear BK152
                 clear HB
                 have BK146 := n0_
                 have BK152 := n1_
                 have HB := n2_
                 have BK159 := n3_
                 have GW159 := n4_
                 have GE159 := n5_
                 have NB146_159 := n6_
                 have NB159_146 := n7_
                 have NB152_159 := n8_
                 have NB159_152 := n9_
                 clear n0_ n1_ n2_ n3_ n4_ n5_ n6_ n7_ n8_ n9_
                 clear hb hbox hg
                 refine hK.out _ _ ⟨(blk_cell BK152.out 0).trans rfl, (blk_cell BK152.out 1).trans rfl, (blk_cell BK152.out 2).trans rfl, ((HB.out.cell (World.block_lt_of_cell? w _ hw155_0)).trans hw155_0), ((HB.out.cell (World.block_lt_of_cell? w _ hw155_1)).trans hw155_1), ((HB.out.cell (World.block_lt_of_cell? w _ hw155_2)).trans hw155_2)⟩ (fun hHeld => ?_)
                 clear hK K
                 refine norm_ (a' := ?_) ?_ ?_
                 rotate_left
                 ·show Act.put _ (some 10) _ = _
                  simp only [Act.put, List.setIfInBounds_toArray, List.set_cons_zero, List.set_cons_succ, i64_w, i32_w]
                  rfl
                 exact norm_ (by first | (simp only [putAll, Act.put, List.setIfInBounds_toArray, List.set_cons_zero, List.set_cons_succ]; done) | (simp only [putAll, Act.put, List.setIfInBounds_toArray, List.set_cons_zero, List.set_cons_succ]; rfl)) (hJ1_6_8 (gb159) _ ⟨hHeld, BK146.out, BK152.out, BK159.out, GW159.out, GE159.out, NB146_159.out, NB159_146.out, NB152_159.out, NB159_152.out, HB.out⟩)
              ·skip
               rintro ⟨gb158, gb159⟩ w26 ⟨hS_, h0_, h1_, h2_, h3_, h4_, h5_, h6_, h7_, h8_, h9_, h10_, h11_, h12_, h13_, h14_, h15_, h16_, h17_, h18_⟩
               have n0_ : Aside0 (w26.heap[gb146]? = some (.cells #[.int .i64 0, .int .i64 0] 45 (0, 0))) := ⟨h0_⟩
               have n1_ : Aside0 (w26.heap[gb152]? = some (.cells #[.int .i16 ((rd_T106 l0 x23_1).f0), .int .i16 ((rd_T106 l0 x23_1).f1), .int .i16 ((rd_T106 l0 x23_1).f2)] 106 (0, 0))) := ⟨h1_⟩
               have n2_ : Aside0 (w26.heap[gb158]? = some (.cells #[.int .i64 0, .int .i64 0] 45 (0, 0))) := ⟨h2_⟩
               have n3_ : Aside0 (w26.heap[gb159]? = some (.cells #[.int .i64 0, .int .i64 0] 45 (0, 0))) := ⟨h3_⟩
               have n4_ : Aside0 (w.heap.size ≤ gb158) := ⟨h4_⟩
               have n5_ : Aside0 (w.heap.size ≤ gb158) := ⟨h5_⟩
               have n6_ : Aside0 (gb146 ≠ gb158) := ⟨h6_⟩
               have n7_ : Aside0 (gb158 ≠ gb146) := ⟨h7_⟩
               have n8_ : Aside0 (gb152 ≠ gb158) := ⟨h8_⟩
               have n9_ : Aside0 (gb158 ≠ gb152) := ⟨h9_⟩
               have n10_ : Aside0 (gb159 ≠ gb158) := ⟨h10_⟩
               have n11_ : Aside0 (gb158 ≠ gb159) := ⟨h11_⟩
               have n12_ : Aside0 (w.heap.size ≤ gb159) := ⟨h12_⟩
               have n13_ : Aside0 (w.heap.size ≤ gb159) := ⟨h13_⟩
               have n14_ : Aside0 (gb146 ≠ gb159) := ⟨h14_⟩
               have n15_ : Aside0 (gb159 ≠ gb146) := ⟨h15_⟩
               have n16_ : Aside0 (gb152 ≠ gb159) := ⟨h16_⟩
               have n17_ : Aside0 (gb159 ≠ gb152) := ⟨h17_⟩
               have n18_ : Aside0 (Below w.heap.size w w26) := ⟨h18_⟩
               clear BK146
               clear BK152
               clear HB
               clear h0_ h1_ h2_ h3_ h4_ h5_ h6_ h7_ h8_ h9_ h10_ h11_ h12_ h13_ h14_ h15_ h16_ h17_ h18_
               have BK146 := n0_
               have BK152 := n1_
               have BK158 := n2_
               have BK159 := n3_
               have GW158 := n4_
               have GE158 := n5_
               have NB146_158 := n6_
               have NB158_146 := n7_
               have NB152_158 := n8_
               have NB158_152 := n9_
               have NB159_158 := n10_
               have NB158_159 := n11_
               have GW159 := n12_
               have GE159 := n13_
               have NB146_159 := n14_
               have NB159_146 := n15_
               have NB152_159 := n16_
               have NB159_152 := n17_
               have HB := n18_
               clear n0_ n1_ n2_ n3_ n4_ n5_ n6_ n7_ n8_ n9_ n10_ n11_ n12_ n13_ n14_ n15_ n16_ n17_ n18_
               have hHeld : w26.cell? ⟨gb152, 0, none⟩ = some (.int .i16 ((rd_T106 l0 x23_1).f0)) ∧ w26.cell? ⟨gb152, 1, none⟩ = some (.int .i16 ((rd_T106 l0 x23_1).f1)) ∧ w26.cell? ⟨gb152, 2, none⟩ = some (.int .i16 ((rd_T106 l0 x23_1).f2)) ∧ w26.cell? (ad151.add ((x6_1).toNat * 3)) = some (.int .i16 ((rd_T106 l0 x6_1).f0)) ∧ w26.cell? ⟨(ad151.add ((x6_1).toNat * 3)).block, (ad151.add ((x6_1).toNat * 3)).off + 1, none⟩ = some (.int .i16 ((rd_T106 l0 x6_1).f1)) ∧ w26.cell? ⟨(ad151.add ((x6_1).toNat * 3)).block, (ad151.add ((x6_1).toNat * 3)).off + 2, none⟩ = some (.int .i16 ((rd_T106 l0 x6_1).f2)) := hS_
               refine norm_ (a' := ?_) ?_ ?_
               rotate_left
               ·simp only [putAll, Act.put, List.setIfInBounds_toArray, List.set_cons_zero, List.set_cons_succ]
                rfl
               refine one_ (i := 6) (N := some 34) #[true, true, true, true, true, true, true, true, true, false, false] rfl rfl (one_of HT_.out (by kernel_rfl)) (by decide) (fun K hK => ?_)
               refine goes_ Try.func82 (by kernel_rfl) rfl #[.agg #[.int .i16 ((rd_T106 l0 x6_1).f0), .int .i16 ((rd_T106 l0 x6_1).f1), .int .i16 ((rd_T106 l0 x6_1).f2)]] (by rfl) rfl rfl (by (try simp only [List.map_toArray, List.map_cons, List.map_nil]); first | done | rfl | (simp only [List.length_drop, List.length_take]; rfl)) ?_
               with_reducible refine (impl_Yarn_count.calls k1 ((rd_T106 l0 x6_1).f0) ((rd_T106 l0 x6_1).f1) ((rd_T106 l0 x6_1).f2) t156 t157 _ A16.out).mono ?_
               rintro e w27 ⟨rfl, hb⟩
               refine ⟨_, rfl, ?_⟩
               have n0_ := Aside0.mk (blk_below (g := gb146) (o := .cells #[.int .i64 0, .int .i64 0] 45 (0, 0)) BK146.out hb)
               have n1_ := Aside0.mk (blk_below (g := gb152) (o := .cells #[.int .i16 ((rd_T106 l0 x23_1).f0), .int .i16 ((rd_T106 l0 x23_1).f1), .int .i16 ((rd_T106 l0 x23_1).f2)] 106 (0, 0)) BK152.out hb)
               have n2_ := Aside0.mk (blk_below (g := gb158) (o := .cells #[.int .i64 0, .int .i64 0] 45 (0, 0)) BK158.out hb)
               have n3_ := Aside0.mk (blk_below (g := gb159) (o := .cells #[.int .i64 0, .int .i64 0] 45 (0, 0)) BK159.out hb)
               have n4_ := Aside0.mk (below_step HB.out hb)
               clear BK146
               clear BK152
               clear BK158
               clear BK159
               clear HB
               have BK146 := n0_
               have BK152 := n1_
               have BK158 := n2_
               have BK159 := n3_
               have HB := n4_
               clear n0_ n1_ n2_ n3_ n4_
               (try clear hb)
               (try clear hb2)
               (try clear hk)
               (try clear hi)
               refine hK.out _ _ ⟨(blk_cell BK152.out 0).trans rfl, (blk_cell BK152.out 1).trans rfl, (blk_cell BK152.out 2).trans rfl, ((HB.out.cell (World.block_lt_of_cell? w _ hw155_0)).trans hw155_0), ((HB.out.cell (World.block_lt_of_cell? w _ hw155_1)).trans hw155_1), ((HB.out.cell (World.block_lt_of_cell? w _ hw155_2)).trans hw155_2)⟩ (fun hHeld => ?_)
               clear hK K
               refine norm_ (a' := ?_) ?_ ?_
               rotate_left
               ·show Act.put _ (some 34) _ = _
                simp only [Act.put, List.setIfInBounds_toArray, List.set_cons_zero, List.set_cons_succ, i64_w, i32_w]
                rfl
               exact norm_ (by first | (simp only [putAll, Act.put, List.setIfInBounds_toArray, List.set_cons_zero, List.set_cons_succ]; done) | (simp only [putAll, Act.put, List.setIfInBounds_toArray, List.set_cons_zero, List.set_cons_succ]; rfl)) (hJ1_6_7_8 (gb158, gb159) _ ⟨hHeld, BK146.out, BK152.out, BK158.out, BK159.out, GW158.out, GE158.out, NB146_158.out, NB158_146.out, NB152_158.out, NB158_152.out, NB159_158.out, NB158_159.out, GW159.out, GE159.out, NB146_159.out, NB159_146.out, NB152_159.out, NB159_152.out, HB.out⟩)
             ·skip
              rintro gb159 w26 ⟨hS_, h0_, h1_, h2_, h3_, h4_, h5_, h6_, h7_, h8_, h9_⟩
              have n0_ : Aside0 (w26.heap[gb146]? = some (.cells #[.int .i64 0, .int .i64 0] 45 (0, 0))) := ⟨h0_⟩
              have n1_ : Aside0 (w26.heap[gb152]? = some (.cells #[.int .i16 ((rd_T106 l0 x23_1).f0), .int .i16 ((rd_T106 l0 x23_1).f1), .int .i16 ((rd_T106 l0 x23_1).f2)] 106 (0, 0))) := ⟨h1_⟩
              have n2_ : Aside0 (w26.heap[gb159]? = some (.cells #[.int .i64 0, .int .i64 0] 45 (0, 0))) := ⟨h2_⟩
              have n3_ : Aside0 (w.heap.size ≤ gb159) := ⟨h3_⟩
              have n4_ : Aside0 (w.heap.size ≤ gb159) := ⟨h4_⟩
              have n5_ : Aside0 (gb146 ≠ gb159) := ⟨h5_⟩
              have n6_ : Aside0 (gb159 ≠ gb146) := ⟨h6_⟩
              have n7_ : Aside0 (gb152 ≠ gb159) := ⟨h7_⟩
              have n8_ : Aside0 (gb159 ≠ gb152) := ⟨h8_⟩
              have n9_ : Aside0 (Below w.heap.size w w26) := ⟨h9_⟩
              clear BK146
              clear BK152
              clear HB
              clear h0_ h1_ h2_ h3_ h4_ h5_ h6_ h7_ h8_ h9_
              have BK146 := n0_
              have BK152 := n1_
              have BK159 := n2_
              have GW159 := n3_
              have GE159 := n4_
              have NB146_159 := n5_
              have NB159_146 := n6_
              have NB152_159 := n7_
              have NB159_152 := n8_
              have HB := n9_
              clear n0_ n1_ n2_ n3_ n4_ n5_ n6_ n7_ n8_ n9_
              have hHeld : w26.cell? ⟨gb152, 0, none⟩ = some (.int .i16 ((rd_T106 l0 x23_1).f0)) ∧ w26.cell? ⟨gb152, 1, none⟩ = some (.int .i16 ((rd_T106 l0 x23_1).f1)) ∧ w26.cell? ⟨gb152, 2, none⟩ = some (.int .i16 ((rd_T106 l0 x23_1).f2)) ∧ w26.cell? (ad151.add ((x6_1).toNat * 3)) = some (.int .i16 ((rd_T106 l0 x6_1).f0)) ∧ w26.cell? ⟨(ad151.add ((x6_1).toNat * 3)).block, (ad151.add ((x6_1).toNat * 3)).off + 1, none⟩ = some (.int .i16 ((rd_T106 l0 x6_1).f1)) ∧ w26.cell? ⟨(ad151.add ((x6_1).toNat * 3)).block, (ad151.add ((x6_1).toNat * 3)).off + 2, none⟩ = some (.int .i16 ((rd_T106 l0 x6_1).f2)) := hS_
              refine norm_ (a' := ?_) ?_ ?_
              rotate_left
              ·simp only [putAll, Act.put, List.setIfInBounds_toArray, List.set_cons_zero, List.set_cons_succ]
               rfl
              refine one_ (i := 7) (N := some 9) #[true, true, true, true, true, true, true, true, true, false, false] rfl rfl (one_of HT_.out (by kernel_rfl)) (by decide) (fun K hK => ?_)
              refine box_step ?hg (N := 9) ?hd (cs := #[.int .i64 0, .int .i64 0]) (t := 45) ?hr ?_; (case hd => rfl); (case hg => rfl); (case hr => first | (go_simp; done) | (go_simp; rfl))
              intro gb158 hg w27 hbox hb
              have n0_ := Aside0.mk (blk_below (g := gb146) (o := .cells #[.int .i64 0, .int .i64 0] 45 (0, 0)) BK146.out hb)
              have n1_ := Aside0.mk (blk_below (g := gb152) (o := .cells #[.int .i16 ((rd_T106 l0 x23_1).f0), .int .i16 ((rd_T106 l0 x23_1).f1), .int .i16 ((rd_T106 l0 x23_1).f2)] 106 (0, 0)) BK152.out hb)
              have n2_ := Aside0.mk (blk_below (g := gb159) (o := .cells #[.int .i64 0, .int .i64 0] 45 (0, 0)) BK159.out hb)
              have n3_ := Aside0.mk (below_step HB.out hb)
              have n4_ := Aside0.mk (hbox)
              have n5_ := Aside0.mk ((by rw [hg]; exact (below_size HB.out) : w.heap.size ≤ gb158))
              have n6_ := n5_
              have n7_ := Aside0.mk ((by rw [hg]; exact Nat.ne_of_lt (blk_lt (g := gb146) (o := .cells #[.int .i64 0, .int .i64 0] 45 (0, 0)) BK146.out) : gb146 ≠ gb158))
              have n8_ := Aside0.mk (Ne.symm n7_.out)
              have n9_ := Aside0.mk ((by rw [hg]; exact Nat.ne_of_lt (blk_lt (g := gb152) (o := .cells #[.int .i16 ((rd_T106 l0 x23_1).f0), .int .i16 ((rd_T106 l0 x23_1).f1), .int .i16 ((rd_T106 l0 x23_1).f2)] 106 (0, 0)) BK152.out) : gb152 ≠ gb158))
              have n10_ := Aside0.mk (Ne.symm n9_.out)
              have n11_ := Aside0.mk ((by rw [hg]; exact Nat.ne_of_lt (blk_lt (g := gb159) (o := .cells #[.int .i64 0, .int .i64 0] 45 (0, 0)) BK159.out) : gb159 ≠ gb158))
              have n12_ := Aside0.mk (Ne.symm n11_.out)
              clear BK146
              clear BK152
              clear BK159
              clear HB
              have BK146 := n0_
              have BK152 := n1_
              have BK159 := n2_
              have HB := n3_
              have BK158 := n4_
              have GW158 := n5_
              have GE158 := n6_
              have NB146_158 := n7_
              have NB158_146 := n8_
              have NB152_158 := n9_
              have NB158_152 := n10_
              have NB159_158 := n11_
              have NB158_159 := n12_
              clear n0_ n1_ n2_ n3_ n4_ n5_ n6_ n7_ n8_ n9_ n10_ n11_ n12_
              clear hb hbox hg
              refine hK.out _ _ ⟨(blk_cell BK152.out 0).trans rfl, (blk_cell BK152.out 1).trans rfl, (blk_cell BK152.out 2).trans rfl, ((HB.out.cell (World.block_lt_of_cell? w _ hw155_0)).trans hw155_0), ((HB.out.cell (World.block_lt_of_cell? w _ hw155_1)).trans hw155_1), ((HB.out.cell (World.block_lt_of_cell? w _ hw155_2)).trans hw155_2)⟩ (fun hHeld => ?_)
              clear hK K
              refine norm_ (a' := ?_) ?_ ?_
              rotate_left
              ·show Act.put _ (some 9) _ = _
               simp only [Act.put, List.setIfInBounds_toArray, List.set_cons_zero, List.set_cons_succ, i64_w, i32_w]
               rfl
              exact norm_ (by first | (simp only [putAll, Act.put, List.setIfInBounds_toArray, List.set_cons_zero, List.set_cons_succ]; done) | (simp only [putAll, Act.put, List.setIfInBounds_toArray, List.set_cons_zero, List.set_cons_succ]; rfl)) (hJ1_6_7_8 (gb158, gb159) _ ⟨hHeld, BK146.out, BK152.out, BK158.out, BK159.out, GW158.out, GE158.out, NB146_158.out, NB158_146.out, NB152_158.out, NB158_152.out, NB159_158.out, NB158_159.out, GW159.out, GE159.out, NB146_159.out, NB159_146.out, NB152_159.out, NB159_152.out, HB.out⟩)
            ·skip
             rintro gb158 w26 ⟨hS_, h0_, h1_, h2_, h3_, h4_, h5_, h6_, h7_, h8_, h9_⟩
             have n0_ : Aside0 (w26.heap[gb146]? = some (.cells #[.int .i64 0, .int .i64 0] 45 (0, 0))) := ⟨h0_⟩
             have n1_ : Aside0 (w26.heap[gb152]? = some (.cells #[.int .i16 ((rd_T106 l0 x23_1).f0), .int .i16 ((rd_T106 l0 x23_1).f1), .int .i16 ((rd_T106 l0 x23_1).f2)] 106 (0, 0))) := ⟨h1_⟩
             have n2_ : Aside0 (w26.heap[gb158]? = some (.cells #[.int .i64 0, .int .i64 0] 45 (0, 0))) := ⟨h2_⟩
             have n3_ : Aside0 (w.heap.size ≤ gb158) := ⟨h3_⟩
             have n4_ : Aside0 (w.heap.size ≤ gb158) := ⟨h4_⟩
             have n5_ : Aside0 (gb146 ≠ gb158) := ⟨h5_⟩
             have n6_ : Aside0 (gb158 ≠ gb146) := ⟨h6_⟩
             have n7_ : Aside0 (gb152 ≠ gb158) := ⟨h7_⟩
             have n8_ : Aside0 (gb158 ≠ gb152) := ⟨h8_⟩
             have n9_ : Aside0 (Below w.heap.size w w26) := ⟨h9_⟩
             clear BK146
             clear BK152
             clear HB
             clear h0_ h1_ h2_ h3_ h4_ h5_ h6_ h7_ h8_ h9_
             have BK146 := n0_
             have BK152 := n1_
             have BK158 := n2_
             have GW158 := n3_
             have GE158 := n4_
             have NB146_158 := n5_
             have NB158_146 := n6_
             have NB152_158 := n7_
             have NB158_152 := n8_
             have HB := n9_
             clear n0_ n1_ n2_ n3_ n4_ n5_ n6_ n7_ n8_ n9_
             have hHeld : w26.cell? ⟨gb152, 0, none⟩ = some (.int .i16 ((rd_T106 l0 x23_1).f0)) ∧ w26.cell? ⟨gb152, 1, none⟩ = some (.int .i16 ((rd_T106 l0 x23_1).f1)) ∧ w26.cell? ⟨gb152, 2, none⟩ = some (.int .i16 ((rd_T106 l0 x23_1).f2)) ∧ w26.cell? (ad151.add ((x6_1).toNat * 3)) = some (.int .i16 ((rd_T106 l0 x6_1).f0)) ∧ w26.cell? ⟨(ad151.add ((x6_1).toNat * 3)).block, (ad151.add ((x6_1).toNat * 3)).off + 1, none⟩ = some (.int .i16 ((rd_T106 l0 x6_1).f1)) ∧ w26.cell? ⟨(ad151.add ((x6_1).toNat * 3)).block, (ad151.add ((x6_1).toNat * 3)).off + 2, none⟩ = some (.int .i16 ((rd_T106 l0 x6_1).f2)) := hS_
             refine norm_ (a' := ?_) ?_ ?_
             rotate_left
             ·simp only [putAll, Act.put, List.setIfInBounds_toArray, List.set_cons_zero, List.set_cons_succ]
              rfl
             refine one_ (i := 8) (N := some 10) #[true, true, true, true, true, true, true, true, true, false, false] rfl rfl (one_of HT_.out (by kernel_rfl)) (by decide) (fun K hK => ?_)
             refine box_step ?hg (N := 10) ?hd (cs := #[.int .i64 0, .int .i64 0]) (t := 45) ?hr ?_; (case hd => rfl); (case hg => rfl); (case hr => first | (go_simp; done) | (go_simp; rfl))
             intro gb159 hg w27 hbox hb
             have n0_ := Aside0.mk (blk_below (g := gb146) (o := .cells #[.int .i64 0, .int .i64 0] 45 (0, 0)) BK146.out hb)
             have n1_ := Aside0.mk (blk_below (g := gb152) (o := .cells #[.int .i16 ((rd_T106 l0 x23_1).f0), .int .i16 ((rd_T106 l0 x23_1).f1), .int .i16 ((rd_T106 l0 x23_1).f2)] 106 (0, 0)) BK152.out hb)
             have n2_ := Aside0.mk (blk_below (g := gb158) (o := .cells #[.int .i64 0, .int .i64 0] 45 (0, 0)) BK158.out hb)
             have n3_ := Aside0.mk (below_step HB.out hb)
             have n4_ := Aside0.mk (hbox)
             have n5_ := Aside0.mk ((by rw [hg]; exact (below_size HB.out) : w.heap.size ≤ gb159))
             have n6_ := n5_
             have n7_ := Aside0.mk ((by rw [hg]; exact Nat.ne_of_lt (blk_lt (g := gb146) (o := .cells #[.int .i64 0, .int .i64 0] 45 (0, 0)) BK146.out) : gb146 ≠ gb159))
             have n8_ := Aside0.mk (Ne.symm n7_.out)
             have n9_ := Aside0.mk ((by rw [hg]; exact Nat.ne_of_lt (blk_lt (g := gb152) (o := .cells #[.int .i16 ((rd_T106 l0 x23_1).f0), .int .i16 ((rd_T106 l0 x23_1).f1), .int .i16 ((rd_T106 l0 x23_1).f2)] 106 (0, 0)) BK152.out) : gb152 ≠ gb159))
             have n10_ := Aside0.mk (Ne.symm n9_.out)
             have n11_ := Aside0.mk ((by rw [hg]; exact Nat.ne_of_lt (blk_lt (g := gb158) (o := .cells #[.int .i64 0, .int .i64 0] 45 (0, 0)) BK158.out) : gb158 ≠ gb159))
             have n12_ := Aside0.mk (Ne.symm n11_.out)
             clear BK146
             clear BK152
             clear BK158
             clear HB
             have BK146 := n0_
             have BK152 := n1_
             have BK158 := n2_
             have HB := n3_
             have BK159 := n4_
             have GW159 := n5_
             have GE159 := n6_
             have NB146_159 := n7_
             have NB159_146 := n8_
             have NB152_159 := n9_
             have NB159_152 := n10_
             have NB158_159 := n11_
             have NB159_158 := n12_
             clear n0_ n1_ n2_ n3_ n4_ n5_ n6_ n7_ n8_ n9_ n10_ n11_ n12_
             clear hb hbox hg
             refine hK.out _ _ ⟨(blk_cell BK152.out 0).trans rfl, (blk_cell BK152.out 1).trans rfl, (blk_cell BK152.out 2).trans rfl, ((HB.out.cell (World.block_lt_of_cell? w _ hw155_0)).trans hw155_0), ((HB.out.cell (World.block_lt_of_cell? w _ hw155_1)).trans hw155_1), ((HB.out.cell (World.block_lt_of_cell? w _ hw155_2)).trans hw155_2)⟩ (fun hHeld => ?_)
             clear hK K
             refine norm_ (a' := ?_) ?_ ?_
             rotate_left
             ·show Act.put _ (some 10) _ = _
              simp only [Act.put, List.setIfInBounds_toArray, List.set_cons_zero, List.set_cons_succ, i64_w, i32_w]
              rfl
             exact norm_ (by first | (simp only [putAll, Act.put, List.setIfInBounds_toArray, List.set_cons_zero, List.set_cons_succ]; done) | (simp only [putAll, Act.put, List.setIfInBounds_toArray, List.set_cons_zero, List.set_cons_succ]; rfl)) (hJ1_6_7_8 (gb158, gb159) _ ⟨hHeld, BK146.out, BK152.out, BK158.out, BK159.out, GW158.out, GE158.out, NB146_158.out, NB158_146.out, NB152_158.out, NB158_152.out, NB159_158.out, NB158_159.out, GW159.out, GE159.out, NB146_159.out, NB159_146.out, NB152_159.out, NB159_152.out, HB.out⟩)
           rintro ⟨gb158, gb159⟩ w27 ⟨hS_, h0_, h1_, h2_, h3_, h4_, h5_, h6_, h7_, h8_, h9_, h10_, h11_, h12_, h13_, h14_, h15_, h16_, h17_, h18_⟩
           have n0_ : Aside0 (w27.heap[gb146]? = some (.cells #[.int .i64 0, .int .i64 0] 45 (0, 0))) := ⟨h0_⟩
           have n1_ : Aside0 (w27.heap[gb152]? = some (.cells #[.int .i16 ((rd_T106 l0 x23_1).f0), .int .i16 ((rd_T106 l0 x23_1).f1), .int .i16 ((rd_T106 l0 x23_1).f2)] 106 (0, 0))) := ⟨h1_⟩
           have n2_ : Aside0 (w27.heap[gb158]? = some (.cells #[.int .i64 0, .int .i64 0] 45 (0, 0))) := ⟨h2_⟩
           have n3_ : Aside0 (w27.heap[gb159]? = some (.cells #[.int .i64 0, .int .i64 0] 45 (0, 0))) := ⟨h3_⟩
           have n4_ : Aside0 (w.heap.size ≤ gb158) := ⟨h4_⟩
           have n5_ : Aside0 (w.heap.size ≤ gb158) := ⟨h5_⟩
           have n6_ : Aside0 (gb146 ≠ gb158) := ⟨h6_⟩
           have n7_ : Aside0 (gb158 ≠ gb146) := ⟨h7_⟩
           have n8_ : Aside0 (gb152 ≠ gb158) := ⟨h8_⟩
           have n9_ : Aside0 (gb158 ≠ gb152) := ⟨h9_⟩
           have n10_ : Aside0 (gb159 ≠ gb158) := ⟨h10_⟩
           have n11_ : Aside0 (gb158 ≠ gb159) := ⟨h11_⟩
           have n12_ : Aside0 (w.heap.size ≤ gb159) := ⟨h12_⟩
           have n13_ : Aside0 (w.heap.size ≤ gb159) := ⟨h13_⟩
           have n14_ : Aside0 (gb146 ≠ gb159) := ⟨h14_⟩
           have n15_ : Aside0 (gb159 ≠ gb146) := ⟨h15_⟩
           have n16_ : Aside0 (gb152 ≠ gb159) := ⟨h16_⟩
           have n17_ : Aside0 (gb159 ≠ gb152) := ⟨h17_⟩
           have n18_ : Aside0 (Below w.heap.size w w27) := ⟨h18_⟩
           clear BK146
           clear BK152
           clear HB
           clear h0_ h1_ h2_ h3_ h4_ h5_ h6_ h7_ h8_ h9_ h10_ h11_ h12_ h13_ h14_ h15_ h16_ h17_ h18_
           have BK146 := n0_
           have BK152 := n1_
           have BK158 := n2_
           have BK159 := n3_
           have GW158 := n4_
           have GE158 := n5_
           have NB146_158 := n6_
           have NB158_146 := n7_
           have NB152_158 := n8_
           have NB158_152 := n9_
           have NB159_158 := n10_
           have NB158_159 := n11_
           have GW159 := n12_
           have GE159 := n13_
           have NB146_159 := n14_
           have NB159_146 := n15_
           have NB152_159 := n16_
           have NB159_152 := n17_
           have HB := n18_
           clear n0_ n1_ n2_ n3_ n4_ n5_ n6_ n7_ n8_ n9_ n10_ n11_ n12_ n13_ n14_ n15_ n16_ n17_ n18_
           have hHeld : w27.cell? ⟨gb152, 0, none⟩ = some (.int .i16 ((rd_T106 l0 x23_1).f0)) ∧ w27.cell? ⟨gb152, 1, none⟩ = some (.int .i16 ((rd_T106 l0 x23_1).f1)) ∧ w27.cell? ⟨gb152, 2, none⟩ = some (.int .i16 ((rd_T106 l0 x23_1).f2)) ∧ w27.cell? (ad151.add ((x6_1).toNat * 3)) = some (.int .i16 ((rd_T106 l0 x6_1).f0)) ∧ w27.cell? ⟨(ad151.add ((x6_1).toNat * 3)).block, (ad151.add ((x6_1).toNat * 3)).off + 1, none⟩ = some (.int .i16 ((rd_T106 l0 x6_1).f1)) ∧ w27.cell? ⟨(ad151.add ((x6_1).toNat * 3)).block, (ad151.add ((x6_1).toNat * 3)).off + 2, none⟩ = some (.int .i16 ((rd_T106 l0 x6_1).f2)) := hS_
           refine norm_ (a' := ?_) ?_ ?_
           rotate_left
           ·simp only [putAll, Act.put, List.setIfInBounds_toArray, List.set_cons_zero, List.set_cons_succ]
            rfl
           refine one_ (i := 9) (N := none) #[true, true, true, true, true, true, true, true, true, true, false] rfl rfl (one_of HT_.out (by kernel_rfl)) (by decide) (fun K hK => ?_)
           have hs28 : w27.cell? ⟨gb158, 0, none⟩ = some (.int .i64 0) := (blk_cell BK158.out 0).trans rfl
           have hfs28 := blk_frozen BK158.out 0
           have hns28_0 := NB146_158.out
           have hns28_1 := NB152_158.out
           have hns28_3 := NB159_158.out
           have hms28_0 := NB158_146.out
           have hms28_1 := NB158_152.out
           have hms28_3 := NB158_159.out
           have hs29 : w27.cell? ⟨gb158, 1, none⟩ = some (.int .i64 0) := (blk_cell BK158.out 1).trans rfl
           have hfs29 := blk_frozen BK158.out 1
           have hns29_0 := NB146_158.out
           have hns29_1 := NB152_158.out
           have hns29_3 := NB159_158.out
           have hms29_0 := NB158_146.out
           have hms29_1 := NB158_152.out
           have hms29_3 := NB158_159.out
           refine skip_ (w1 := ?_) (by rfl) rfl ?_ ?_
           rotate_left
           ·go_simp
            rfl
           refine hK.out _ _ ⟨((cell_far (p := ⟨gb158, _, none⟩) NB152_158.out _).trans (((cell_far (p := ⟨gb158, _, none⟩) NB152_158.out _).trans (hHeld.1)))), ((cell_far (p := ⟨gb158, _, none⟩) NB152_158.out _).trans (((cell_far (p := ⟨gb158, _, none⟩) NB152_158.out _).trans (hHeld.2.1)))), ((cell_far (p := ⟨gb158, _, none⟩) NB152_158.out _).trans (((cell_far (p := ⟨gb158, _, none⟩) NB152_158.out _).trans (hHeld.2.2.1)))), ((cell_far (p := ⟨gb158, _, none⟩) (by first | exact Nat.ne_of_lt (Nat.lt_of_lt_of_le (by have := World.block_lt_of_cell? _ _ hw155_0; first | rwa [add_block] at this | exact this) GW158.out) | (rw [add_block]; exact Nat.ne_of_lt (Nat.lt_of_lt_of_le (by have := World.block_lt_of_cell? _ _ hw155_0; first | rwa [add_block] at this | exact this) GW158.out)) | (show (Addr.add _ _).block ≠ _; rw [add_block]; exact Nat.ne_of_lt (Nat.lt_of_lt_of_le (by have := World.block_lt_of_cell? _ _ hw155_0; first | rwa [add_block] at this | exact this) GW158.out)) | (dsimp only; exact Nat.ne_of_lt (Nat.lt_of_lt_of_le (by have := World.block_lt_of_cell? _ _ hw155_0; first | rwa [add_block] at this | exact this) GW158.out))) _).trans (((cell_far (p := ⟨gb158, _, none⟩) (by first | exact Nat.ne_of_lt (Nat.lt_of_lt_of_le (by have := World.block_lt_of_cell? _ _ hw155_0; first | rwa [add_block] at this | exact this) GW158.out) | (rw [add_block]; exact Nat.ne_of_lt (Nat.lt_of_lt_of_le (by have := World.block_lt_of_cell? _ _ hw155_0; first | rwa [add_block] at this | exact this) GW158.out)) | (show (Addr.add _ _).block ≠ _; rw [add_block]; exact Nat.ne_of_lt (Nat.lt_of_lt_of_le (by have := World.block_lt_of_cell? _ _ hw155_0; first | rwa [add_block] at this | exact this) GW158.out)) | (dsimp only; exact Nat.ne_of_lt (Nat.lt_of_lt_of_le (by have := World.block_lt_of_cell? _ _ hw155_0; first | rwa [add_block] at this | exact this) GW158.out))) _).trans (hHeld.2.2.2.1)))), ((cell_far (p := ⟨gb158, _, none⟩) (by first | exact Nat.ne_of_lt (Nat.lt_of_lt_of_le (by have := World.block_lt_of_cell? _ _ hw155_1; first | rwa [add_block] at this | exact this) GW158.out) | (rw [add_block]; exact Nat.ne_of_lt (Nat.lt_of_lt_of_le (by have := World.block_lt_of_cell? _ _ hw155_1; first | rwa [add_block] at this | exact this) GW158.out)) | (show (Addr.add _ _).block ≠ _; rw [add_block]; exact Nat.ne_of_lt (Nat.lt_of_lt_of_le (by have := World.block_lt_of_cell? _ _ hw155_1; first | rwa [add_block] at this | exact this) GW158.out)) | (dsimp only; exact Nat.ne_of_lt (Nat.lt_of_lt_of_le (by have := World.block_lt_of_cell? _ _ hw155_1; first | rwa [add_block] at this | exact this) GW158.out))) _).trans (((cell_far (p := ⟨gb158, _, none⟩) (by first | exact Nat.ne_of_lt (Nat.lt_of_lt_of_le (by have := World.block_lt_of_cell? _ _ hw155_1; first | rwa [add_block] at this | exact this) GW158.out) | (rw [add_block]; exact Nat.ne_of_lt (Nat.lt_of_lt_of_le (by have := World.block_lt_of_cell? _ _ hw155_1; first | rwa [add_block] at this | exact this) GW158.out)) | (show (Addr.add _ _).block ≠ _; rw [add_block]; exact Nat.ne_of_lt (Nat.lt_of_lt_of_le (by have := World.block_lt_of_cell? _ _ hw155_1; first | rwa [add_block] at this | exact this) GW158.out)) | (dsimp only; exact Nat.ne_of_lt (Nat.lt_of_lt_of_le (by have := World.block_lt_of_cell? _ _ hw155_1; first | rwa [add_block] at this | exact this) GW158.out))) _).trans (hHeld.2.2.2.2.1)))), ((cell_far (p := ⟨gb158, _, none⟩) (by first | exact Nat.ne_of_lt (Nat.lt_of_lt_of_le (by have := World.block_lt_of_cell? _ _ hw155_2; first | rwa [add_block] at this | exact this) GW158.out) | (rw [add_block]; exact Nat.ne_of_lt (Nat.lt_of_lt_of_le (by have := World.block_lt_of_cell? _ _ hw155_2; first | rwa [add_block] at this | exact this) GW158.out)) | (show (Addr.add _ _).block ≠ _; rw [add_block]; exact Nat.ne_of_lt (Nat.lt_of_lt_of_le (by have := World.block_lt_of_cell? _ _ hw155_2; first | rwa [add_block] at this | exact this) GW158.out)) | (dsimp only; exact Nat.ne_of_lt (Nat.lt_of_lt_of_le (by have := World.block_lt_of_cell? _ _ hw155_2; first | rwa [add_block] at this | exact this) GW158.out))) _).trans (((cell_far (p := ⟨gb158, _, none⟩) (by first | exact Nat.ne_of_lt (Nat.lt_of_lt_of_le (by have := World.block_lt_of_cell? _ _ hw155_2; first | rwa [add_block] at this | exact this) GW158.out) | (rw [add_block]; exact Nat.ne_of_lt (Nat.lt_of_lt_of_le (by have := World.block_lt_of_cell? _ _ hw155_2; first | rwa [add_block] at this | exact this) GW158.out)) | (show (Addr.add _ _).block ≠ _; rw [add_block]; exact Nat.ne_of_lt (Nat.lt_of_lt_of_le (by have := World.block_lt_of_cell? _ _ hw155_2; first | rwa [add_block] at this | exact this) GW158.out)) | (dsimp only; exact Nat.ne_of_lt (Nat.lt_of_lt_of_le (by have := World.block_lt_of_cell? _ _ hw155_2; first | rwa [add_block] at this | exact this) GW158.out))) _).trans (hHeld.2.2.2.2.2))))⟩ (fun hHeld => ?_)
           clear hK K
           refine one_ (i := 10) (N := none) #[true, true, true, true, true, true, true, true, true, true, true] rfl rfl (one_of HT_.out (by kernel_rfl)) (by decide) (fun K hK => ?_)
           have hs30 : w27.cell? ⟨gb159, 0, none⟩ = some (.int .i64 0) := (blk_cell BK159.out 0).trans rfl
           have hfs30 := blk_frozen BK159.out 0
           have hns30_0 := NB146_159.out
           have hns30_1 := NB152_159.out
           have hns30_2 := NB158_159.out
           have hms30_0 := NB159_146.out
           have hms30_1 := NB159_152.out
           have hms30_2 := NB159_158.out
           have hs31 : w27.cell? ⟨gb159, 1, none⟩ = some (.int .i64 0) := (blk_cell BK159.out 1).trans rfl
           have hfs31 := blk_frozen BK159.out 1
           have hns31_0 := NB146_159.out
           have hns31_1 := NB152_159.out
           have hns31_2 := NB158_159.out
           have hms31_0 := NB159_146.out
           have hms31_1 := NB159_152.out
           have hms31_2 := NB159_158.out
           refine skip_ (w1 := ?_) (by rfl) rfl ?_ ?_
           rotate_left
           ·go_simp
            rfl
           refine hK.out _ _ ⟨((cell_far (p := ⟨gb159, _, none⟩) NB152_159.out _).trans (((cell_far (p := ⟨gb159, _, none⟩) NB152_159.out _).trans (hHeld.1)))), ((cell_far (p := ⟨gb159, _, none⟩) NB152_159.out _).trans (((cell_far (p := ⟨gb159, _, none⟩) NB152_159.out _).trans (hHeld.2.1)))), ((cell_far (p := ⟨gb159, _, none⟩) NB152_159.out _).trans (((cell_far (p := ⟨gb159, _, none⟩) NB152_159.out _).trans (hHeld.2.2.1)))), ((cell_far (p := ⟨gb159, _, none⟩) (by first | exact Nat.ne_of_lt (Nat.lt_of_lt_of_le (by have := World.block_lt_of_cell? _ _ hw155_0; first | rwa [add_block] at this | exact this) GW159.out) | (rw [add_block]; exact Nat.ne_of_lt (Nat.lt_of_lt_of_le (by have := World.block_lt_of_cell? _ _ hw155_0; first | rwa [add_block] at this | exact this) GW159.out)) | (show (Addr.add _ _).block ≠ _; rw [add_block]; exact Nat.ne_of_lt (Nat.lt_of_lt_of_le (by have := World.block_lt_of_cell? _ _ hw155_0; first | rwa [add_block] at this | exact this) GW159.out)) | (dsimp only; exact Nat.ne_of_lt (Nat.lt_of_lt_of_le (by have := World.block_lt_of_cell? _ _ hw155_0; first | rwa [add_block] at this | exact this) GW159.out))) _).trans (((cell_far (p := ⟨gb159, _, none⟩) (by first | exact Nat.ne_of_lt (Nat.lt_of_lt_of_le (by have := World.block_lt_of_cell? _ _ hw155_0; first | rwa [add_block] at this | exact this) GW159.out) | (rw [add_block]; exact Nat.ne_of_lt (Nat.lt_of_lt_of_le (by have := World.block_lt_of_cell? _ _ hw155_0; first | rwa [add_block] at this | exact this) GW159.out)) | (show (Addr.add _ _).block ≠ _; rw [add_block]; exact Nat.ne_of_lt (Nat.lt_of_lt_of_le (by have := World.block_lt_of_cell? _ _ hw155_0; first | rwa [add_block] at this | exact this) GW159.out)) | (dsimp only; exact Nat.ne_of_lt (Nat.lt_of_lt_of_le (by have := World.block_lt_of_cell? _ _ hw155_0; first | rwa [add_block] at this | exact this) GW159.out))) _).trans (hHeld.2.2.2.1)))), ((cell_far (p := ⟨gb159, _, none⟩) (by first | exact Nat.ne_of_lt (Nat.lt_of_lt_of_le (by have := World.block_lt_of_cell? _ _ hw155_1; first | rwa [add_block] at this | exact this) GW159.out) | (rw [add_block]; exact Nat.ne_of_lt (Nat.lt_of_lt_of_le (by have := World.block_lt_of_cell? _ _ hw155_1; first | rwa [add_block] at this | exact this) GW159.out)) | (show (Addr.add _ _).block ≠ _; rw [add_block]; exact Nat.ne_of_lt (Nat.lt_of_lt_of_le (by have := World.block_lt_of_cell? _ _ hw155_1; first | rwa [add_block] at this | exact this) GW159.out)) | (dsimp only; exact Nat.ne_of_lt (Nat.lt_of_lt_of_le (by have := World.block_lt_of_cell? _ _ hw155_1; first | rwa [add_block] at this | exact this) GW159.out))) _).trans (((cell_far (p := ⟨gb159, _, none⟩) (by first | exact Nat.ne_of_lt (Nat.lt_of_lt_of_le (by have := World.block_lt_of_cell? _ _ hw155_1; first | rwa [add_block] at this | exact this) GW159.out) | (rw [add_block]; exact Nat.ne_of_lt (Nat.lt_of_lt_of_le (by have := World.block_lt_of_cell? _ _ hw155_1; first | rwa [add_block] at this | exact this) GW159.out)) | (show (Addr.add _ _).block ≠ _; rw [add_block]; exact Nat.ne_of_lt (Nat.lt_of_lt_of_le (by have := World.block_lt_of_cell? _ _ hw155_1; first | rwa [add_block] at this | exact this) GW159.out)) | (dsimp only; exact Nat.ne_of_lt (Nat.lt_of_lt_of_le (by have := World.block_lt_of_cell? _ _ hw155_1; first | rwa [add_block] at this | exact this) GW159.out))) _).trans (hHeld.2.2.2.2.1)))), ((cell_far (p := ⟨gb159, _, none⟩) (by first | exact Nat.ne_of_lt (Nat.lt_of_lt_of_le (by have := World.block_lt_of_cell? _ _ hw155_2; first | rwa [add_block] at this | exact this) GW159.out) | (rw [add_block]; exact Nat.ne_of_lt (Nat.lt_of_lt_of_le (by have := World.block_lt_of_cell? _ _ hw155_2; first | rwa [add_block] at this | exact this) GW159.out)) | (show (Addr.add _ _).block ≠ _; rw [add_block]; exact Nat.ne_of_lt (Nat.lt_of_lt_of_le (by have := World.block_lt_of_cell? _ _ hw155_2; first | rwa [add_block] at this | exact this) GW159.out)) | (dsimp only; exact Nat.ne_of_lt (Nat.lt_of_lt_of_le (by have := World.block_lt_of_cell? _ _ hw155_2; first | rwa [add_block] at this | exact this) GW159.out))) _).trans (((cell_far (p := ⟨gb159, _, none⟩) (by first | exact Nat.ne_of_lt (Nat.lt_of_lt_of_le (by have := World.block_lt_of_cell? _ _ hw155_2; first | rwa [add_block] at this | exact this) GW159.out) | (rw [add_block]; exact Nat.ne_of_lt (Nat.lt_of_lt_of_le (by have := World.block_lt_of_cell? _ _ hw155_2; first | rwa [add_block] at this | exact this) GW159.out)) | (show (Addr.add _ _).block ≠ _; rw [add_block]; exact Nat.ne_of_lt (Nat.lt_of_lt_of_le (by have := World.block_lt_of_cell? _ _ hw155_2; first | rwa [add_block] at this | exact this) GW159.out)) | (dsimp only; exact Nat.ne_of_lt (Nat.lt_of_lt_of_le (by have := World.block_lt_of_cell? _ _ hw155_2; first | rwa [add_block] at this | exact this) GW159.out))) _).trans (hHeld.2.2.2.2.2))))⟩ (fun hHeld => ?_)
           clear hK K
           refine done_ (done_of HT_.out (by kernel_rfl)) ?_
           have hnb32 := NB158_146.out
           have hnc32 := NB146_158.out
           have hnb33 := NB158_152.out
           have hnc33 := NB152_158.out
           have hnb34 := NB158_159.out
           have hnc34 := NB159_158.out
           have hcz35_0 : w27.cell? ⟨gb158, 0, none⟩ = some (.int .i64 0) := (blk_cell BK158.out 0).trans rfl
           have hcz35_1 : w27.cell? ⟨gb158, 1, none⟩ = some (.int .i64 0) := (blk_cell BK158.out 1).trans rfl
           have hfz35_0 := blk_frozen BK158.out 0
           have hfz35_1 := blk_frozen BK158.out 1
           have hnb36 := NB159_146.out
           have hnc36 := NB146_159.out
           have hnb37 := NB159_152.out
           have hnc37 := NB152_159.out
           have hcz38_0 : w27.cell? ⟨gb159, 0, none⟩ = some (.int .i64 0) := (blk_cell BK159.out 0).trans rfl
           have hcz38_1 : w27.cell? ⟨gb159, 1, none⟩ = some (.int .i64 0) := (blk_cell BK159.out 1).trans rfl
           have hfz38_0 := blk_frozen BK159.out 0
           have hfz38_1 := blk_frozen BK159.out 1
           try go_wp2
           go_roundg k1
           case measure => have := HK1.out; omega
           case rel => exact ⟨(x23_1), (wrap64 (x23_1 + 1)), (by first | rfl | (simp; done) | (simp [*]; done)), (by first | rfl | (simp; done) | (simp [*]; done)), H', ⟨by have := HK1.out; omega⟩, ⟨by (with_reducible repeat (first | refine blk_drewN ?_ _ | refine blk_drew ?_ | refine blk_alloc ?_ _)); refine blk_far ?_ NB146_159.out _; (with_reducible repeat (first | refine blk_drewN ?_ _ | refine blk_drew ?_ | refine blk_alloc ?_ _)); refine blk_far ?_ NB146_159.out _; (with_reducible repeat (first | refine blk_drewN ?_ _ | refine blk_drew ?_ | refine blk_alloc ?_ _)); refine blk_far ?_ NB146_158.out _; (with_reducible repeat (first | refine blk_drewN ?_ _ | refine blk_drew ?_ | refine blk_alloc ?_ _)); refine blk_far ?_ NB146_158.out _; (with_reducible repeat (first | refine blk_drewN ?_ _ | refine blk_drew ?_ | refine blk_alloc ?_ _)); exact BK146.out⟩, ⟨by repeat (first | (with_reducible first | exact HB.out | apply below_alloc | apply pw_below_drewN | apply below_drew1 | refine below_set ?_ GE146.out | refine below_set ?_ GE152.out | refine below_set ?_ GE158.out | refine below_set ?_ GE159.out) | exact HB.out)⟩⟩
          ·rw [if_neg c17] at H
           have c17b0 : decide ((wrap64 (t156 * t154)) < (wrap64 (t153 * t157))) = false := decide_eq_false c17
           clear c17
           have H' := Aside0.mk H
           clear H
           have p151 : 0 ≤ (x23_1 : Int) := of_decide_eq_true (by first | (with_reducible assumption) | assumption)
           have q151 : x23_1 < (l0.length : Int) := of_decide_eq_true (by first | (with_reducible assumption) | assumption)
           obtain ⟨ad151, e151, hx151_0, hx151_1, hx151_2⟩ := at_T106 HR0.out x23_1 p151 q151
           cases e151
           replace hx151_0 := (HB.out.cell (World.block_lt_of_cell? w _ hx151_0)).trans hx151_0
           replace hx151_1 := (HB.out.cell (World.block_lt_of_cell? w _ hx151_1)).trans hx151_1
           replace hx151_2 := (HB.out.cell (World.block_lt_of_cell? w _ hx151_2)).trans hx151_2
           replace p151 := eq_true p151
           replace q151 := eq_true q151
           try go_wp2_with (first | ((with_reducible refine gate_dst (N := 8) rfl ?_); refine box_event ?hg (N := 8) ?hd (cs := #[.int .i16 0, .int .i16 0, .int .i16 0]) (t := 106) ?hr ?_; (case hd => rfl); (case hg => rfl); (case hr => first | (go_simp; done) | (go_simp; rfl)); intro gb152 hg w39 hbox hb; have n0_ := Aside0.mk (blk_below (g := gb146) (o := .cells #[.int .i64 0, .int .i64 0] 45 (0, 0)) BK146.out hb); have n1_ := Aside0.mk (below_step HB.out hb); have n2_ := Aside0.mk (hbox); have n3_ := Aside0.mk ((by rw [hg]; exact (below_size HB.out) : w.heap.size ≤ gb152)); have n4_ := Aside0.mk ((by rw [hg]; exact (below_size HB.out) : w.heap.size ≤ gb152)); have n5_ := Aside0.mk ((by rw [hg]; exact Nat.ne_of_lt (blk_lt (g := gb146) (o := .cells #[.int .i64 0, .int .i64 0] 45 (0, 0)) BK146.out) : gb146 ≠ gb152)); have n6_ := Aside0.mk ((by rw [hg]; exact Nat.ne_of_gt (blk_lt (g := gb146) (o := .cells #[.int .i64 0, .int .i64 0] 45 (0, 0)) BK146.out) : gb152 ≠ gb146)); clear BK146; clear HB; have BK146 := n0_; have HB := n1_; have BK152 := n2_; have GW152 := n3_; have GE152 := n4_; have NB146_152 := n5_; have NB152_146 := n6_; clear n0_ n1_ n2_ n3_ n4_ n5_ n6_; clear hb hbox hg; have hnb40 := NB152_146.out; have hnc40 := NB146_152.out; have hcz41_0 : w39.cell? ⟨gb152, 0, none⟩ = some (.int .i16 0) := (blk_cell BK152.out 0).trans rfl; have hcz41_1 : w39.cell? ⟨gb152, 1, none⟩ = some (.int .i16 0) := (blk_cell BK152.out 1).trans rfl; have hcz41_2 : w39.cell? ⟨gb152, 2, none⟩ = some (.int .i16 0) := (blk_cell BK152.out 2).trans rfl; have hfz41_0 := blk_frozen BK152.out 0; have hfz41_1 := blk_frozen BK152.out 1; have hfz41_2 := blk_frozen BK152.out 2))
           have n0_ : Aside0 ((((w39.setCell ⟨gb152, 0, none⟩ (.int .i16 ((rd_T106 l0 x23_1).f0))).setCell ⟨gb152, 1, none⟩ (.int .i16 ((rd_T106 l0 x23_1).f1))).setCell ⟨gb152, 2, none⟩ (.int .i16 ((rd_T106 l0 x23_1).f2))).heap[gb146]? = some (.cells #[.int .i64 0, .int .i64 0] 45 (0, 0))) := ⟨by (with_reducible repeat (first | refine blk_drewN ?_ _ | refine blk_drew ?_ | refine blk_alloc ?_ _)); refine blk_far ?_ NB146_152.out _; (with_reducible repeat (first | refine blk_drewN ?_ _ | refine blk_drew ?_ | refine blk_alloc ?_ _)); refine blk_far ?_ NB146_152.out _; (with_reducible repeat (first | refine blk_drewN ?_ _ | refine blk_drew ?_ | refine blk_alloc ?_ _)); refine blk_far ?_ NB146_152.out _; (with_reducible repeat (first | refine blk_drewN ?_ _ | refine blk_drew ?_ | refine blk_alloc ?_ _)); exact BK146.out⟩
           have n1_ : Aside0 ((((w39.setCell ⟨gb152, 0, none⟩ (.int .i16 ((rd_T106 l0 x23_1).f0))).setCell ⟨gb152, 1, none⟩ (.int .i16 ((rd_T106 l0 x23_1).f1))).setCell ⟨gb152, 2, none⟩ (.int .i16 ((rd_T106 l0 x23_1).f2))).heap[gb152]? = some (.cells #[.int .i16 ((rd_T106 l0 x23_1).f0), .int .i16 ((rd_T106 l0 x23_1).f1), .int .i16 ((rd_T106 l0 x23_1).f2)] 106 (0, 0))) := ⟨by (with_reducible repeat (first | refine blk_drewN ?_ _ | refine blk_drew ?_ | refine blk_alloc ?_ _)); refine blk_put (cs := #[.int .i16 ((rd_T106 l0 x23_1).f0), .int .i16 ((rd_T106 l0 x23_1).f1), .int .i16 0]) ?_ 2 _ rfl; (with_reducible repeat (first | refine blk_drewN ?_ _ | refine blk_drew ?_ | refine blk_alloc ?_ _)); refine blk_put (cs := #[.int .i16 ((rd_T106 l0 x23_1).f0), .int .i16 0, .int .i16 0]) ?_ 1 _ rfl; (with_reducible repeat (first | refine blk_drewN ?_ _ | refine blk_drew ?_ | refine blk_alloc ?_ _)); refine blk_put (cs := #[.int .i16 0, .int .i16 0, .int .i16 0]) ?_ 0 _ rfl; (with_reducible repeat (first | refine blk_drewN ?_ _ | refine blk_drew ?_ | refine blk_alloc ?_ _)); exact BK152.out⟩
           have n2_ : Aside0 (Below w.heap.size w (((w39.setCell ⟨gb152, 0, none⟩ (.int .i16 ((rd_T106 l0 x23_1).f0))).setCell ⟨gb152, 1, none⟩ (.int .i16 ((rd_T106 l0 x23_1).f1))).setCell ⟨gb152, 2, none⟩ (.int .i16 ((rd_T106 l0 x23_1).f2)))) := ⟨by repeat (first | (with_reducible first | exact HB.out | apply below_alloc | apply pw_below_drewN | apply below_drew1 | refine below_set ?_ GE146.out | refine below_set ?_ GE152.out) | exact HB.out)⟩
           (try clear BK146)
           (try clear BK152)
           (try clear HB)
           generalize (((w39.setCell ⟨gb152, 0, none⟩ (.int .i16 ((rd_T106 l0 x23_1).f0))).setCell ⟨gb152, 1, none⟩ (.int .i16 ((rd_T106 l0 x23_1).f1))).setCell ⟨gb152, 2, none⟩ (.int .i16 ((rd_T106 l0 x23_1).f2))) = w42 at n0_ n1_ n2_ ⊢
           have BK146 := n0_
           have BK152 := n1_
           have HB := n2_
           clear n0_ n1_ n2_
           have n0_ := Aside0.mk (blk_drew BK146.out)
           have n1_ := Aside0.mk (blk_drew BK152.out)
           have n2_ := Aside0.mk (below_drew1 HB.out)
           clear BK146
           clear BK152
           clear HB
           have BK146 := n0_
           have BK152 := n1_
           have HB := n2_
           clear n0_ n1_ n2_
           have p155 : 0 ≤ (x6_1 : Int) := of_decide_eq_true (by first | (with_reducible assumption) | assumption)
           have q155 : x6_1 < (l0.length : Int) := of_decide_eq_true (by first | (with_reducible assumption) | assumption)
           obtain ⟨ad155, e155, hx155_0, hx155_1, hx155_2⟩ := at_T106 HR0.out x6_1 p155 q155
           have hw155_2 := hx155_2
           have hw155_1 := hx155_1
           have hw155_0 := hx155_0
           obtain rfl : ad151 = ad155 := (by injection e155)
           replace hx155_0 := (HB.out.cell (World.block_lt_of_cell? w _ hx155_0)).trans hx155_0
           replace hx155_1 := (HB.out.cell (World.block_lt_of_cell? w _ hx155_1)).trans hx155_1
           replace hx155_2 := (HB.out.cell (World.block_lt_of_cell? w _ hx155_2)).trans hx155_2
           replace p155 := eq_true p155
           replace q155 := eq_true q155
           refine start_ (n := 11) (S := fun w' => w'.cell? ⟨gb152, 0, none⟩ = some (.int .i16 ((rd_T106 l0 x23_1).f0)) ∧ w'.cell? ⟨gb152, 1, none⟩ = some (.int .i16 ((rd_T106 l0 x23_1).f1)) ∧ w'.cell? ⟨gb152, 2, none⟩ = some (.int .i16 ((rd_T106 l0 x23_1).f2)) ∧ w'.cell? (ad151.add ((x6_1).toNat * 3)) = some (.int .i16 ((rd_T106 l0 x6_1).f0)) ∧ w'.cell? ⟨(ad151.add ((x6_1).toNat * 3)).block, (ad151.add ((x6_1).toNat * 3)).off + 1, none⟩ = some (.int .i16 ((rd_T106 l0 x6_1).f1)) ∧ w'.cell? ⟨(ad151.add ((x6_1).toNat * 3)).block, (ad151.add ((x6_1).toNat * 3)).off + 2, none⟩ = some (.int .i16 ((rd_T106 l0 x6_1).f2))) (ds := []) #[false, false, false, false, false, false, false, false, false, false, false] (by kernel_rfl) rfl rfl ⟨(blk_cell BK152.out 0).trans rfl, (blk_cell BK152.out 1).trans rfl, (blk_cell BK152.out 2).trans rfl, ((HB.out.cell (World.block_lt_of_cell? w _ hw155_0)).trans hw155_0), ((HB.out.cell (World.block_lt_of_cell? w _ hw155_1)).trans hw155_1), ((HB.out.cell (World.block_lt_of_cell? w _ hw155_2)).trans hw155_2)⟩ (fun hHeld => ?_); refine with_tabW impl_WeakestOf.tab10 impl_WeakestOf.bits10 (fun HT_ HW_ => ?_)
           generalize w42.drew = w43 at BK146 BK152 HB hx155_0 hx155_1 hx155_2 hHeld ⊢
           refine pure_ (i := 2) (N := some 30) (v := ?_) (a' := ?_) #[false, false, true, false, false, false, false, false, false, false, false] rfl rfl (any_of HT_.out (by kernel_rfl)) (fun _ _ _ h => h) (Or.inl ⟨by rfl, ?_⟩) ?_ ?_
           rotate_left
           ·intro w'
            go_simp
            with_reducible rfl
           rotate_left
           ·simp only [Act.put, List.setIfInBounds_toArray, List.set_cons_zero, List.set_cons_succ, i64_w, i32_w]
            rfl
           refine pure_ (i := 3) (N := some 31) (v := ?_) (a' := ?_) #[false, false, true, true, false, false, false, false, false, false, false] rfl rfl (any_of HT_.out (by kernel_rfl)) (fun _ _ _ h => h) (Or.inl ⟨by rfl, ?_⟩) ?_ ?_
           rotate_left
           ·intro w'
            go_simp
            with_reducible rfl
           rotate_left
           ·simp only [Act.put, List.setIfInBounds_toArray, List.set_cons_zero, List.set_cons_succ, i64_w, i32_w]
            rfl
           refine pure_ (i := 4) (N := some 32) (v := ?_) (a' := ?_) #[false, false, true, true, true, false, false, false, false, false, false] rfl rfl (any_of HT_.out (by kernel_rfl)) (fun _ _ _ h => h) (Or.inl ⟨by rfl, ?_⟩) ?_ ?_
           rotate_left
           ·intro w'
            go_simp
            with_reducible rfl
           rotate_left
           ·simp only [Act.put, List.setIfInBounds_toArray, List.set_cons_zero, List.set_cons_succ, i64_w, i32_w]
            rfl
           refine take_ (i := 0) (N := some 28) (v := ?_) (a' := ?_) #[true, false, true, true, true, false, false, false, false, false, false] rfl rfl (take_ofW HT_.out HW_.out (by kernel_rfl)) (fun _ _ _ h => h) (Or.inl ⟨by rfl, ?_⟩) hHeld ?_ ?_
           rotate_left
           ·rintro w' ⟨s0, s1, s2, s3, s4, s5⟩
            go_simp
            with_reducible rfl
           rotate_left
           ·simp only [Act.put, List.setIfInBounds_toArray, List.set_cons_zero, List.set_cons_succ, i64_w, i32_w]
            rfl
           refine take_ (i := 5) (N := some 33) (v := ?_) (a' := ?_) #[true, false, true, true, true, true, false, false, false, false, false] rfl rfl (take_ofW HT_.out HW_.out (by kernel_rfl)) (fun _ _ _ h => h) (Or.inl ⟨by rfl, ?_⟩) hHeld ?_ ?_
           rotate_left
           ·rintro w' ⟨s0, s1, s2, s3, s4, s5⟩
            go_simp
            with_reducible rfl
           rotate_left
           ·simp only [Act.put, List.setIfInBounds_toArray, List.set_cons_zero, List.set_cons_succ, i64_w, i32_w]
            rfl
           refine join_ (σ := Nat × Nat) 2 #[true, true, true, true, true, true, true, true, true, false, false] (fun s_ => [(29, .agg #[.int .i64 t153, .int .i64 t154]), (34, .agg #[.int .i64 t156, .int .i64 t157]), (9, .pointer (some ⟨s_.1, 0, none⟩)), (10, .pointer (some ⟨s_.2, 0, none⟩))]) (fun s_ w' => (w'.cell? ⟨gb152, 0, none⟩ = some (.int .i16 ((rd_T106 l0 x23_1).f0)) ∧ w'.cell? ⟨gb152, 1, none⟩ = some (.int .i16 ((rd_T106 l0 x23_1).f1)) ∧ w'.cell? ⟨gb152, 2, none⟩ = some (.int .i16 ((rd_T106 l0 x23_1).f2)) ∧ w'.cell? (ad151.add ((x6_1).toNat * 3)) = some (.int .i16 ((rd_T106 l0 x6_1).f0)) ∧ w'.cell? ⟨(ad151.add ((x6_1).toNat * 3)).block, (ad151.add ((x6_1).toNat * 3)).off + 1, none⟩ = some (.int .i16 ((rd_T106 l0 x6_1).f1)) ∧ w'.cell? ⟨(ad151.add ((x6_1).toNat * 3)).block, (ad151.add ((x6_1).toNat * 3)).off + 2, none⟩ = some (.int .i16 ((rd_T106 l0 x6_1).f2))) ∧ (w'.heap[gb146]? = some (.cells #[.int .i64 0, .int .i64 0] 45 (0, 0))) ∧ (w'.heap[gb152]? = some (.cells #[.int .i16 ((rd_T106 l0 x23_1).f0), .int .i16 ((rd_T106 l0 x23_1).f1), .int .i16 ((rd_T106 l0 x23_1).f2)] 106 (0, 0))) ∧ (w'.heap[s_.1]? = some (.cells #[.int .i64 0, .int .i64 0] 45 (0, 0))) ∧ (w'.heap[s_.2]? = some (.cells #[.int .i64 0, .int .i64 0] 45 (0, 0))) ∧ (w.heap.size ≤ s_.1) ∧ (w.heap.size ≤ s_.1) ∧ (gb146 ≠ s_.1) ∧ (s_.1 ≠ gb146) ∧ (gb152 ≠ s_.1) ∧ (s_.1 ≠ gb152) ∧ (s_.2 ≠ s_.1) ∧ (s_.1 ≠ s_.2) ∧ (w.heap.size ≤ s_.2) ∧ (w.heap.size ≤ s_.2) ∧ (gb146 ≠ s_.2) ∧ (s_.2 ≠ gb146) ∧ (gb152 ≠ s_.2) ∧ (s_.2 ≠ gb152) ∧ (Below w.heap.size w w')) ?_ ?_
           rotate_left
           ·intro hJ1_6_7_8
            refine join_ (σ := Nat) 3 #[true, true, true, true, true, true, true, true, false, false, false] (fun s_ => [(29, .agg #[.int .i64 t153, .int .i64 t154]), (34, .agg #[.int .i64 t156, .int .i64 t157]), (9, .pointer (some ⟨s_, 0, none⟩))]) (fun s_ w' => (w'.cell? ⟨gb152, 0, none⟩ = some (.int .i16 ((rd_T106 l0 x23_1).f0)) ∧ w'.cell? ⟨gb152, 1, none⟩ = some (.int .i16 ((rd_T106 l0 x23_1).f1)) ∧ w'.cell? ⟨gb152, 2, none⟩ = some (.int .i16 ((rd_T106 l0 x23_1).f2)) ∧ w'.cell? (ad151.add ((x6_1).toNat * 3)) = some (.int .i16 ((rd_T106 l0 x6_1).f0)) ∧ w'.cell? ⟨(ad151.add ((x6_1).toNat * 3)).block, (ad151.add ((x6_1).toNat * 3)).off + 1, none⟩ = some (.int .i16 ((rd_T106 l0 x6_1).f1)) ∧ w'.cell? ⟨(ad151.add ((x6_1).toNat * 3)).block, (ad151.add ((x6_1).toNat * 3)).off + 2, none⟩ = some (.int .i16 ((rd_T106 l0 x6_1).f2))) ∧ (w'.heap[gb146]? = some (.cells #[.int .i64 0, .int .i64 0] 45 (0, 0))) ∧ (w'.heap[gb152]? = some (.cells #[.int .i16 ((rd_T106 l0 x23_1).f0), .int .i16 ((rd_T106 l0 x23_1).f1), .int .i16 ((rd_T106 l0 x23_1).f2)] 106 (0, 0))) ∧ (w'.heap[s_]? = some (.cells #[.int .i64 0, .int .i64 0] 45 (0, 0))) ∧ (w.heap.size ≤ s_) ∧ (w.heap.size ≤ s_) ∧ (gb146 ≠ s_) ∧ (s_ ≠ gb146) ∧ (gb152 ≠ s_) ∧ (s_ ≠ gb152) ∧ (Below w.heap.size w w')) ?_ ?_
            rotate_left
            ·intro hJ1_6_7
             refine join_ (σ := Nat) 3 #[true, true, true, true, true, true, true, false, true, false, false] (fun s_ => [(29, .agg #[.int .i64 t153, .int .i64 t154]), (34, .agg #[.int .i64 t156, .int .i64 t157]), (10, .pointer (some ⟨s_, 0, none⟩))]) (fun s_ w' => (w'.cell? ⟨gb152, 0, none⟩ = some (.int .i16 ((rd_T106 l0 x23_1).f0)) ∧ w'.cell? ⟨gb152, 1, none⟩ = some (.int .i16 ((rd_T106 l0 x23_1).f1)) ∧ w'.cell? ⟨gb152, 2, none⟩ = some (.int .i16 ((rd_T106 l0 x23_1).f2)) ∧ w'.cell? (ad151.add ((x6_1).toNat * 3)) = some (.int .i16 ((rd_T106 l0 x6_1).f0)) ∧ w'.cell? ⟨(ad151.add ((x6_1).toNat * 3)).block, (ad151.add ((x6_1).toNat * 3)).off + 1, none⟩ = some (.int .i16 ((rd_T106 l0 x6_1).f1)) ∧ w'.cell? ⟨(ad151.add ((x6_1).toNat * 3)).block, (ad151.add ((x6_1).toNat * 3)).off + 2, none⟩ = some (.int .i16 ((rd_T106 l0 x6_1).f2))) ∧ (w'.heap[gb146]? = some (.cells #[.int .i64 0, .int .i64 0] 45 (0, 0))) ∧ (w'.heap[gb152]? = some (.cells #[.int .i16 ((rd_T106 l0 x23_1).f0), .int .i16 ((rd_T106 l0 x23_1).f1), .int .i16 ((rd_T106 l0 x23_1).f2)] 106 (0, 0))) ∧ (w'.heap[s_]? = some (.cells #[.int .i64 0, .int .i64 0] 45 (0, 0))) ∧ (w.heap.size ≤ s_) ∧ (w.heap.size ≤ s_) ∧ (gb146 ≠ s_) ∧ (s_ ≠ gb146) ∧ (gb152 ≠ s_) ∧ (s_ ≠ gb152) ∧ (Below w.heap.size w w')) ?_ ?_
             rotate_left
             ·intro hJ1_6_8
              refine join_ (σ := Nat × Nat) 3 #[true, true, true, true, true, true, false, true, true, false, false] (fun s_ => [(29, .agg #[.int .i64 t153, .int .i64 t154]), (9, .pointer (some ⟨s_.1, 0, none⟩)), (10, .pointer (some ⟨s_.2, 0, none⟩))]) (fun s_ w' => (w'.cell? ⟨gb152, 0, none⟩ = some (.int .i16 ((rd_T106 l0 x23_1).f0)) ∧ w'.cell? ⟨gb152, 1, none⟩ = some (.int .i16 ((rd_T106 l0 x23_1).f1)) ∧ w'.cell? ⟨gb152, 2, none⟩ = some (.int .i16 ((rd_T106 l0 x23_1).f2)) ∧ w'.cell? (ad151.add ((x6_1).toNat * 3)) = some (.int .i16 ((rd_T106 l0 x6_1).f0)) ∧ w'.cell? ⟨(ad151.add ((x6_1).toNat * 3)).block, (ad151.add ((x6_1).toNat * 3)).off + 1, none⟩ = some (.int .i16 ((rd_T106 l0 x6_1).f1)) ∧ w'.cell? ⟨(ad151.add ((x6_1).toNat * 3)).block, (ad151.add ((x6_1).toNat * 3)).off + 2, none⟩ = some (.int .i16 ((rd_T106 l0 x6_1).f2))) ∧ (w'.heap[gb146]? = some (.cells #[.int .i64 0, .int .i64 0] 45 (0, 0))) ∧ (w'.heap[gb152]? = some (.cells #[.int .i16 ((rd_T106 l0 x23_1).f0), .int .i16 ((rd_T106 l0 x23_1).f1), .int .i16 ((rd_T106 l0 x23_1).f2)] 106 (0, 0))) ∧ (w'.heap[s_.1]? = some (.cells #[.int .i64 0, .int .i64 0] 45 (0, 0))) ∧ (w'.heap[s_.2]? = some (.cells #[.int .i64 0, .int .i64 0] 45 (0, 0))) ∧ (w.heap.size ≤ s_.1) ∧ (w.heap.size ≤ s_.1) ∧ (gb146 ≠ s_.1) ∧ (s_.1 ≠ gb146) ∧ (gb152 ≠ s_.1) ∧ (s_.1 ≠ gb152) ∧ (s_.2 ≠ s_.1) ∧ (s_.1 ≠ s_.2) ∧ (w.heap.size ≤ s_.2) ∧ (w.heap.size ≤ s_.2) ∧ (gb146 ≠ s_.2) ∧ (s_.2 ≠ gb146) ∧ (gb152 ≠ s_.2) ∧ (s_.2 ≠ gb152) ∧ (Below w.heap.size w w')) ?_ ?_
              rotate_left
              ·intro hJ1_7_8
               refine join_ (σ := Unit) 4 #[true, true, true, true, true, true, true, false, false, false, false] (fun s_ => [(29, .agg #[.int .i64 t153, .int .i64 t154]), (34, .agg #[.int .i64 t156, .int .i64 t157])]) (fun s_ w' => (w'.cell? ⟨gb152, 0, none⟩ = some (.int .i16 ((rd_T106 l0 x23_1).f0)) ∧ w'.cell? ⟨gb152, 1, none⟩ = some (.int .i16 ((rd_T106 l0 x23_1).f1)) ∧ w'.cell? ⟨gb152, 2, none⟩ = some (.int .i16 ((rd_T106 l0 x23_1).f2)) ∧ w'.cell? (ad151.add ((x6_1).toNat * 3)) = some (.int .i16 ((rd_T106 l0 x6_1).f0)) ∧ w'.cell? ⟨(ad151.add ((x6_1).toNat * 3)).block, (ad151.add ((x6_1).toNat * 3)).off + 1, none⟩ = some (.int .i16 ((rd_T106 l0 x6_1).f1)) ∧ w'.cell? ⟨(ad151.add ((x6_1).toNat * 3)).block, (ad151.add ((x6_1).toNat * 3)).off + 2, none⟩ = some (.int .i16 ((rd_T106 l0 x6_1).f2))) ∧ (w'.heap[gb146]? = some (.cells #[.int .i64 0, .int .i64 0] 45 (0, 0))) ∧ (w'.heap[gb152]? = some (.cells #[.int .i16 ((rd_T106 l0 x23_1).f0), .int .i16 ((rd_T106 l0 x23_1).f1), .int .i16 ((rd_T106 l0 x23_1).f2)] 106 (0, 0))) ∧ (Below w.heap.size w w')) ?_ ?_
               rotate_left
               ·intro hJ1_6
                refine join_ (σ := Nat) 4 #[true, true, true, true, true, true, false, true, false, false, false] (fun s_ => [(29, .agg #[.int .i64 t153, .int .i64 t154]), (9, .pointer (some ⟨s_, 0, none⟩))]) (fun s_ w' => (w'.cell? ⟨gb152, 0, none⟩ = some (.int .i16 ((rd_T106 l0 x23_1).f0)) ∧ w'.cell? ⟨gb152, 1, none⟩ = some (.int .i16 ((rd_T106 l0 x23_1).f1)) ∧ w'.cell? ⟨gb152, 2, none⟩ = some (.int .i16 ((rd_T106 l0 x23_1).f2)) ∧ w'.cell? (ad151.add ((x6_1).toNat * 3)) = some (.int .i16 ((rd_T106 l0 x6_1).f0)) ∧ w'.cell? ⟨(ad151.add ((x6_1).toNat * 3)).block, (ad151.add ((x6_1).toNat * 3)).off + 1, none⟩ = some (.int .i16 ((rd_T106 l0 x6_1).f1)) ∧ w'.cell? ⟨(ad151.add ((x6_1).toNat * 3)).block, (ad151.add ((x6_1).toNat * 3)).off + 2, none⟩ = some (.int .i16 ((rd_T106 l0 x6_1).f2))) ∧ (w'.heap[gb146]? = some (.cells #[.int .i64 0, .int .i64 0] 45 (0, 0))) ∧ (w'.heap[gb152]? = some (.cells #[.int .i16 ((rd_T106 l0 x23_1).f0), .int .i16 ((rd_T106 l0 x23_1).f1), .int .i16 ((rd_T106 l0 x23_1).f2)] 106 (0, 0))) ∧ (w'.heap[s_]? = some (.cells #[.int .i64 0, .int .i64 0] 45 (0, 0))) ∧ (w.heap.size ≤ s_) ∧ (w.heap.size ≤ s_) ∧ (gb146 ≠ s_) ∧ (s_ ≠ gb146) ∧ (gb152 ≠ s_) ∧ (s_ ≠ gb152) ∧ (Below w.heap.size w w')) ?_ ?_
                rotate_left
                ·intro hJ1_7
                 refine join_ (σ := Nat) 4 #[true, true, true, true, true, true, false, false, true, false, false] (fun s_ => [(29, .agg #[.int .i64 t153, .int .i64 t154]), (10, .pointer (some ⟨s_, 0, none⟩))]) (fun s_ w' => (w'.cell? ⟨gb152, 0, none⟩ = some (.int .i16 ((rd_T106 l0 x23_1).f0)) ∧ w'.cell? ⟨gb152, 1, none⟩ = some (.int .i16 ((rd_T106 l0 x23_1).f1)) ∧ w'.cell? ⟨gb152, 2, none⟩ = some (.int .i16 ((rd_T106 l0 x23_1).f2)) ∧ w'.cell? (ad151.add ((x6_1).toNat * 3)) = some (.int .i16 ((rd_T106 l0 x6_1).f0)) ∧ w'.cell? ⟨(ad151.add ((x6_1).toNat * 3)).block, (ad151.add ((x6_1).toNat * 3)).off + 1, none⟩ = some (.int .i16 ((rd_T106 l0 x6_1).f1)) ∧ w'.cell? ⟨(ad151.add ((x6_1).toNat * 3)).block, (ad151.add ((x6_1).toNat * 3)).off + 2, none⟩ = some (.int .i16 ((rd_T106 l0 x6_1).f2))) ∧ (w'.heap[gb146]? = some (.cells #[.int .i64 0, .int .i64 0] 45 (0, 0))) ∧ (w'.heap[gb152]? = some (.cells #[.int .i16 ((rd_T106 l0 x23_1).f0), .int .i16 ((rd_T106 l0 x23_1).f1), .int .i16 ((rd_T106 l0 x23_1).f2)] 106 (0, 0))) ∧ (w'.heap[s_]? = some (.cells #[.int .i64 0, .int .i64 0] 45 (0, 0))) ∧ (w.heap.size ≤ s_) ∧ (w.heap.size ≤ s_) ∧ (gb146 ≠ s_) ∧ (s_ ≠ gb146) ∧ (gb152 ≠ s_) ∧ (s_ ≠ gb152) ∧ (Below w.heap.size w w')) ?_ ?_
                 rotate_left
                 ·intro hJ1_8
                  refine join_ (σ := Nat × Nat) 4 #[true, false, true, true, true, true, false, true, true, false, false] (fun s_ => [(9, .pointer (some ⟨s_.1, 0, none⟩)), (10, .pointer (some ⟨s_.2, 0, none⟩))]) (fun s_ w' => (w'.cell? ⟨gb152, 0, none⟩ = some (.int .i16 ((rd_T106 l0 x23_1).f0)) ∧ w'.cell? ⟨gb152, 1, none⟩ = some (.int .i16 ((rd_T106 l0 x23_1).f1)) ∧ w'.cell? ⟨gb152, 2, none⟩ = some (.int .i16 ((rd_T106 l0 x23_1).f2)) ∧ w'.cell? (ad151.add ((x6_1).toNat * 3)) = some (.int .i16 ((rd_T106 l0 x6_1).f0)) ∧ w'.cell? ⟨(ad151.add ((x6_1).toNat * 3)).block, (ad151.add ((x6_1).toNat * 3)).off + 1, none⟩ = some (.int .i16 ((rd_T106 l0 x6_1).f1)) ∧ w'.cell? ⟨(ad151.add ((x6_1).toNat * 3)).block, (ad151.add ((x6_1).toNat * 3)).off + 2, none⟩ = some (.int .i16 ((rd_T106 l0 x6_1).f2))) ∧ (w'.heap[gb146]? = some (.cells #[.int .i64 0, .int .i64 0] 45 (0, 0))) ∧ (w'.heap[gb152]? = some (.cells #[.int .i16 ((rd_T106 l0 x23_1).f0), .int .i16 ((rd_T106 l0 x23_1).f1), .int .i16 ((rd_T106 l0 x23_1).f2)] 106 (0, 0))) ∧ (w'.heap[s_.1]? = some (.cells #[.int .i64 0, .int .i64 0] 45 (0, 0))) ∧ (w'.heap[s_.2]? = some (.cells #[.int .i64 0, .int .i64 0] 45 (0, 0))) ∧ (w.heap.size ≤ s_.1) ∧ (w.heap.size ≤ s_.1) ∧ (gb146 ≠ s_.1) ∧ (s_.1 ≠ gb146) ∧ (gb152 ≠ s_.1) ∧ (s_.1 ≠ gb152) ∧ (s_.2 ≠ s_.1) ∧ (s_.1 ≠ s_.2) ∧ (w.heap.size ≤ s_.2) ∧ (w.heap.size ≤ s_.2) ∧ (gb146 ≠ s_.2) ∧ (s_.2 ≠ gb146) ∧ (gb152 ≠ s_.2) ∧ (s_.2 ≠ gb152) ∧ (Below w.heap.size w w')) ?_ ?_
                  rotate_left
                  ·intro hJ7_8
                   refine join_ (σ := Unit) 5 #[true, true, true, true, true, true, false, false, false, false, false] (fun s_ => [(29, .agg #[.int .i64 t153, .int .i64 t154])]) (fun s_ w' => (w'.cell? ⟨gb152, 0, none⟩ = some (.int .i16 ((rd_T106 l0 x23_1).f0)) ∧ w'.cell? ⟨gb152, 1, none⟩ = some (.int .i16 ((rd_T106 l0 x23_1).f1)) ∧ w'.cell? ⟨gb152, 2, none⟩ = some (.int .i16 ((rd_T106 l0 x23_1).f2)) ∧ w'.cell? (ad151.add ((x6_1).toNat * 3)) = some (.int .i16 ((rd_T106 l0 x6_1).f0)) ∧ w'.cell? ⟨(ad151.add ((x6_1).toNat * 3)).block, (ad151.add ((x6_1).toNat * 3)).off + 1, none⟩ = some (.int .i16 ((rd_T106 l0 x6_1).f1)) ∧ w'.cell? ⟨(ad151.add ((x6_1).toNat * 3)).block, (ad151.add ((x6_1).toNat * 3)).off + 2, none⟩ = some (.int .i16 ((rd_T106 l0 x6_1).f2))) ∧ (w'.heap[gb146]? = some (.cells #[.int .i64 0, .int .i64 0] 45 (0, 0))) ∧ (w'.heap[gb152]? = some (.cells #[.int .i16 ((rd_T106 l0 x23_1).f0), .int .i16 ((rd_T106 l0 x23_1).f1), .int .i16 ((rd_T106 l0 x23_1).f2)] 106 (0, 0))) ∧ (Below w.heap.size w w')) ?_ ?_
                   rotate_left
                   ·intro hJ1
                    refine join_ (σ := Nat) 5 #[true, false, true, true, true, true, false, true, false, false, false] (fun s_ => [(9, .pointer (some ⟨s_, 0, none⟩))]) (fun s_ w' => (w'.cell? ⟨gb152, 0, none⟩ = some (.int .i16 ((rd_T106 l0 x23_1).f0)) ∧ w'.cell? ⟨gb152, 1, none⟩ = some (.int .i16 ((rd_T106 l0 x23_1).f1)) ∧ w'.cell? ⟨gb152, 2, none⟩ = some (.int .i16 ((rd_T106 l0 x23_1).f2)) ∧ w'.cell? (ad151.add ((x6_1).toNat * 3)) = some (.int .i16 ((rd_T106 l0 x6_1).f0)) ∧ w'.cell? ⟨(ad151.add ((x6_1).toNat * 3)).block, (ad151.add ((x6_1).toNat * 3)).off + 1, none⟩ = some (.int .i16 ((rd_T106 l0 x6_1).f1)) ∧ w'.cell? ⟨(ad151.add ((x6_1).toNat * 3)).block, (ad151.add ((x6_1).toNat * 3)).off + 2, none⟩ = some (.int .i16 ((rd_T106 l0 x6_1).f2))) ∧ (w'.heap[gb146]? = some (.cells #[.int .i64 0, .int .i64 0] 45 (0, 0))) ∧ (w'.heap[gb152]? = some (.cells #[.int .i16 ((rd_T106 l0 x23_1).f0), .int .i16 ((rd_T106 l0 x23_1).f1), .int .i16 ((rd_T106 l0 x23_1).f2)] 106 (0, 0))) ∧ (w'.heap[s_]? = some (.cells #[.int .i64 0, .int .i64 0] 45 (0, 0))) ∧ (w.heap.size ≤ s_) ∧ (w.heap.size ≤ s_) ∧ (gb146 ≠ s_) ∧ (s_ ≠ gb146) ∧ (gb152 ≠ s_) ∧ (s_ ≠ gb152) ∧ (Below w.heap.size w w')) ?_ ?_
                    rotate_left
                    ·intro hJ7
                     refine join_ (σ := Nat) 5 #[true, false, true, true, true, true, false, false, true, false, false] (fun s_ => [(10, .pointer (some ⟨s_, 0, none⟩))]) (fun s_ w' => (w'.cell? ⟨gb152, 0, none⟩ = some (.int .i16 ((rd_T106 l0 x23_1).f0)) ∧ w'.cell? ⟨gb152, 1, none⟩ = some (.int .i16 ((rd_T106 l0 x23_1).f1)) ∧ w'.cell? ⟨gb152, 2, none⟩ = some (.int .i16 ((rd_T106 l0 x23_1).f2)) ∧ w'.cell? (ad151.add ((x6_1).toNat * 3)) = some (.int .i16 ((rd_T106 l0 x6_1).f0)) ∧ w'.cell? ⟨(ad151.add ((x6_1).toNat * 3)).block, (ad151.add ((x6_1).toNat * 3)).off + 1, none⟩ = some (.int .i16 ((rd_T106 l0 x6_1).f1)) ∧ w'.cell? ⟨(ad151.add ((x6_1).toNat * 3)).block, (ad151.add ((x6_1).toNat * 3)).off + 2, none⟩ = some (.int .i16 ((rd_T106 l0 x6_1).f2))) ∧ (w'.heap[gb146]? = some (.cells #[.int .i64 0, .int .i64 0] 45 (0, 0))) ∧ (w'.heap[gb152]? = some (.cells #[.int .i16 ((rd_T106 l0 x23_1).f0), .int .i16 ((rd_T106 l0 x23_1).f1), .int .i16 ((rd_T106 l0 x23_1).f2)] 106 (0, 0))) ∧ (w'.heap[s_]? = some (.cells #[.int .i64 0, .int .i64 0] 45 (0, 0))) ∧ (w.heap.size ≤ s_) ∧ (w.heap.size ≤ s_) ∧ (gb146 ≠ s_) ∧ (s_ ≠ gb146) ∧ (gb152 ≠ s_) ∧ (s_ ≠ gb152) ∧ (Below w.heap.size w w')) ?_ ?_
                     rotate_left
                     ·intro hJ8
                      refine three_ (i := 1) (j := 7) (k := 8) (Ni := some 29) (Nj := some 9) (Nk := some 10) #[true, true, true, true, true, true, false, false, false, false, false] #[true, false, true, true, true, true, false, true, false, false, false] #[true, false, true, true, true, true, false, false, true, false, false] rfl rfl rfl rfl rfl rfl (three_of HT_.out (by kernel_rfl)) (by decide) (by decide) (by decide) (fun K hK => ?_) (fun K hK => ?_) (fun K hK => ?_)
                      ·skip
                       refine goes_ Try.func82 (by kernel_rfl) rfl #[.agg #[.int .i16 ((rd_T106 l0 x23_1).f0), .int .i16 ((rd_T106 l0 x23_1).f1), .int .i16 ((rd_T106 l0 x23_1).f2)]] (by rfl) rfl rfl (by (try simp only [List.map_toArray, List.map_cons, List.map_nil]); first | done | rfl | (simp only [List.length_drop, List.length_take]; rfl)) ?_
                       with_reducible refine (impl_Yarn_count.calls k1 ((rd_T106 l0 x23_1).f0) ((rd_T106 l0 x23_1).f1) ((rd_T106 l0 x23_1).f2) t153 t154 _ A13.out).mono ?_
                       rintro e w44 ⟨rfl, hb⟩
                       refine ⟨_, rfl, ?_⟩
                       have n0_ := Aside0.mk (blk_below (g := gb146) (o := .cells #[.int .i64 0, .int .i64 0] 45 (0, 0)) BK146.out hb)
                       have n1_ := Aside0.mk (blk_below (g := gb152) (o := .cells #[.int .i16 ((rd_T106 l0 x23_1).f0), .int .i16 ((rd_T106 l0 x23_1).f1), .int .i16 ((rd_T106 l0 x23_1).f2)] 106 (0, 0)) BK152.out hb)
                       have n2_ := Aside0.mk (below_step HB.out hb)
                       clear BK146
                       clear BK152
                       clear HB
                       have BK146 := n0_
                       have BK152 := n1_
                       have HB := n2_
                       clear n0_ n1_ n2_
                       (try clear hb)
                       (try clear hb2)
                       (try clear hk)
                       (try clear hi)
                       refine hK.out _ _ ⟨(blk_cell BK152.out 0).trans rfl, (blk_cell BK152.out 1).trans rfl, (blk_cell BK152.out 2).trans rfl, ((HB.out.cell (World.block_lt_of_cell? w _ hw155_0)).trans hw155_0), ((HB.out.cell (World.block_lt_of_cell? w _ hw155_1)).trans hw155_1), ((HB.out.cell (World.block_lt_of_cell? w _ hw155_2)).trans hw155_2)⟩ (fun hHeld => ?_)
                       clear hK K
                       refine norm_ (a' := ?_) ?_ ?_
                       rotate_left
                       ·show Act.put _ (some 29) _ = _
                        simp only [Act.put, List.setIfInBounds_toArray, List.set_cons_zero, List.set_cons_succ, i64_w, i32_w]
                        rfl
                       exact norm_ (by first | (simp only [putAll, Act.put, List.setIfInBounds_toArray, List.set_cons_zero, List.set_cons_succ]; done) | (simp only [putAll, Act.put, List.setIfInBounds_toArray, List.set_cons_zero, List.set_cons_succ]; rfl)) (hJ1 () _ ⟨hHeld, BK146.out, BK152.out, HB.out⟩)
                      ·skip
                       refine box_step ?hg (N := 9) ?hd (cs := #[.int .i64 0, .int .i64 0]) (t := 45) ?hr ?_; (case hd => rfl); (case hg => rfl); (case hr => first | (go_simp; done) | (go_simp; rfl))
                       intro gb158 hg w44 hbox hb
                       have n0_ := Aside0.mk (blk_below (g := gb146) (o := .cells #[.int .i64 0, .int .i64 0] 45 (0, 0)) BK146.out hb)
                       have n1_ := Aside0.mk (blk_below (g := gb152) (o := .cells #[.int .i16 ((rd_T106 l0 x23_1).f0), .int .i16 ((rd_T106 l0 x23_1).f1), .int .i16 ((rd_T106 l0 x23_1).f2)] 106 (0, 0)) BK152.out hb)
                       have n2_ := Aside0.mk (below_step HB.out hb)
                       have n3_ := Aside0.mk (hbox)
                       have n4_ := Aside0.mk ((by rw [hg]; exact (below_size HB.out) : w.heap.size ≤ gb158))
                       have n5_ := n4_
                       have n6_ := Aside0.mk ((by rw [hg]; exact Nat.ne_of_lt (blk_lt (g := gb146) (o := .cells #[.int .i64 0, .int .i64 0] 45 (0, 0)) BK146.out) : gb146 ≠ gb158))
                       have n7_ := Aside0.mk (Ne.symm n6_.out)
                       have n8_ := Aside0.mk ((by rw [hg]; exact Nat.ne_of_lt (blk_lt (g := gb152) (o := .cells #[.int .i16 ((rd_T106 l0 x23_1).f0), .int .i16 ((rd_T106 l0 x23_1).f1), .int .i16 ((rd_T106 l0 x23_1).f2)] 106 (0, 0)) BK152.out) : gb152 ≠ gb158))
                       have n9_ := Aside0.mk (Ne.symm n8_.out)
                       clear BK146
                       clear BK152
                       clear HB
                       have BK146 := n0_
                       have BK152 := n1_
                       have HB := n2_
                       have BK158 := n3_
                       have GW158 := n4_
                       have GE158 := n5_
                       have NB146_158 := n6_
                       have NB158_146 := n7_
                       have NB152_158 := n8_
                       have NB158_152 := n9_
                       clear n0_ n1_ n2_ n3_ n4_ n5_ n6_ n7_ n8_ n9_
                       clear hb hbox hg
                       refine hK.out _ _ ⟨(blk_cell BK152.out 0).trans rfl, (blk_cell BK152.out 1).trans rfl, (blk_cell BK152.out 2).trans rfl, ((HB.out.cell (World.block_lt_of_cell? w _ hw155_0)).trans hw155_0), ((HB.out.cell (World.block_lt_of_cell? w _ hw155_1)).trans hw155_1), ((HB.out.cell (World.block_lt_of_cell? w _ hw155_2)).trans hw155_2)⟩ (fun hHeld => ?_)
                       clear hK K
                       refine norm_ (a' := ?_) ?_ ?_
                       rotate_left
                       ·show Act.put _ (some 9) _ = _
                        simp only [Act.put, List.setIfInBounds_toArray, List.set_cons_zero, List.set_cons_succ, i64_w, i32_w]
                        rfl
                       exact norm_ (by first | (simp only [putAll, Act.put, List.setIfInBounds_toArray, List.set_cons_zero, List.set_cons_succ]; done) | (simp only [putAll, Act.put, List.setIfInBounds_toArray, List.set_cons_zero, List.set_cons_succ]; rfl)) (hJ7 (gb158) _ ⟨hHeld, BK146.out, BK152.out, BK158.out, GW158.out, GE158.out, NB146_158.out, NB158_146.out, NB152_158.out, NB158_152.out, HB.out⟩)
                      ·skip
                       refine box_step ?hg (N := 10) ?hd (cs := #[.int .i64 0, .int .i64 0]) (t := 45) ?hr ?_; (case hd => rfl); (case hg => rfl); (case hr => first | (go_simp; done) | (go_simp; rfl))
                       intro gb159 hg w44 hbox hb
                       have n0_ := Aside0.mk (blk_below (g := gb146) (o := .cells #[.int .i64 0, .int .i64 0] 45 (0, 0)) BK146.out hb)
                       have n1_ := Aside0.mk (blk_below (g := gb152) (o := .cells #[.int .i16 ((rd_T106 l0 x23_1).f0), .int .i16 ((rd_T106 l0 x23_1).f1), .int .i16 ((rd_T106 l0 x23_1).f2)] 106 (0, 0)) BK152.out hb)
                       have n2_ := Aside0.mk (below_step HB.out hb)
                       have n3_ := Aside0.mk (hbox)
                       have n4_ := Aside0.mk ((by rw [hg]; exact (below_size HB.out) : w.heap.size ≤ gb159))
                       have n5_ := n4_
                       have n6_ := Aside0.mk ((by rw [hg]; exact Nat.ne_of_lt (blk_lt (g := gb146) (o := .cells #[.int .i64 0, .int .i64 0] 45 (0, 0)) BK146.out) : gb146 ≠ gb159))
                       have n7_ := Aside0.mk (Ne.symm n6_.out)
                       have n8_ := Aside0.mk ((by rw [hg]; exact Nat.ne_of_lt (blk_lt (g := gb152) (o := .cells #[.int .i16 ((rd_T106 l0 x23_1).f0), .int .i16 ((rd_T106 l0 x23_1).f1), .int .i16 ((rd_T106 l0 x23_1).f2)] 106 (0, 0)) BK152.out) : gb152 ≠ gb159))
                       have n9_ := Aside0.mk (Ne.symm n8_.out)
                       clear BK146
                       clear BK152
                       clear HB
                       have BK146 := n0_
                       have BK152 := n1_
                       have HB := n2_
                       have BK159 := n3_
                       have GW159 := n4_
                       have GE159 := n5_
                       have NB146_159 := n6_
                       have NB159_146 := n7_
                       have NB152_159 := n8_
                       have NB159_152 := n9_
                       clear n0_ n1_ n2_ n3_ n4_ n5_ n6_ n7_ n8_ n9_
                       clear hb hbox hg
                       refine hK.out _ _ ⟨(blk_cell BK152.out 0).trans rfl, (blk_cell BK152.out 1).trans rfl, (blk_cell BK152.out 2).trans rfl, ((HB.out.cell (World.block_lt_of_cell? w _ hw155_0)).trans hw155_0), ((HB.out.cell (World.block_lt_of_cell? w _ hw155_1)).trans hw155_1), ((HB.out.cell (World.block_lt_of_cell? w _ hw155_2)).trans hw155_2)⟩ (fun hHeld => ?_)
                       clear hK K
                       refine norm_ (a' := ?_) ?_ ?_
                       rotate_left
                       ·show Act.put _ (some 10) _ = _
                        simp only [Act.put, List.setIfInBounds_toArray, List.set_cons_zero, List.set_cons_succ, i64_w, i32_w]
                        rfl
                       exact norm_ (by first | (simp only [putAll, Act.put, List.setIfInBounds_toArray, List.set_cons_zero, List.set_cons_succ]; done) | (simp only [putAll, Act.put, List.setIfInBounds_toArray, List.set_cons_zero, List.set_cons_succ]; rfl)) (hJ8 (gb159) _ ⟨hHeld, BK146.out, BK152.out, BK159.out, GW159.out, GE159.out, NB146_159.out, NB159_146.out, NB152_159.out, NB159_152.out, HB.out⟩)
                     ·skip
                      rintro gb159 w45 ⟨hS_, h0_, h1_, h2_, h3_, h4_, h5_, h6_, h7_, h8_, h9_⟩
                      have n0_ : Aside0 (w45.heap[gb146]? = some (.cells #[.int .i64 0, .int .i64 0] 45 (0, 0))) := ⟨h0_⟩
                      have n1_ : Aside0 (w45.heap[gb152]? = some (.cells #[.int .i16 ((rd_T106 l0 x23_1).f0), .int .i16 ((rd_T106 l0 x23_1).f1), .int .i16 ((rd_T106 l0 x23_1).f2)] 106 (0, 0))) := ⟨h1_⟩
                      have n2_ : Aside0 (w45.heap[gb159]? = some (.cells #[.int .i64 0, .int .i64 0] 45 (0, 0))) := ⟨h2_⟩
                      have n3_ : Aside0 (w.heap.size ≤ gb159) := ⟨h3_⟩
                      have n4_ : Aside0 (w.heap.size ≤ gb159) := ⟨h4_⟩
                      have n5_ : Aside0 (gb146 ≠ gb159) := ⟨h5_⟩
                      have n6_ : Aside0 (gb159 ≠ gb146) := ⟨h6_⟩
                      have n7_ : Aside0 (gb152 ≠ gb159) := ⟨h7_⟩
                      have n8_ : Aside0 (gb159 ≠ gb152) := ⟨h8_⟩
                      have n9_ : Aside0 (Below w.heap.size w w45) := ⟨h9_⟩
                      clear BK146
                      clear BK152
                      clear HB
                      clear h0_ h1_ h2_ h3_ h4_ h5_ h6_ h7_ h8_ h9_
                      have BK146 := n0_
                      have BK152 := n1_
                      have BK159 := n2_
                      have GW159 := n3_
                      have GE159 := n4_
                      have NB146_159 := n5_
                      have NB159_146 := n6_
                      have NB152_159 := n7_
                      have NB159_152 := n8_
                      have HB := n9_
                      clear n0_ n1_ n2_ n3_ n4_ n5_ n6_ n7_ n8_ n9_
                      have hHeld : w45.cell? ⟨gb152, 0, none⟩ = some (.int .i16 ((rd_T106 l0 x23_1).f0)) ∧ w45.cell? ⟨gb152, 1, none⟩ = some (.int .i16 ((rd_T106 l0 x23_1).f1)) ∧ w45.cell? ⟨gb152, 2, none⟩ = some (.int .i16 ((rd_T106 l0 x23_1).f2)) ∧ w45.cell? (ad151.add ((x6_1).toNat * 3)) = some (.int .i16 ((rd_T106 l0 x6_1).f0)) ∧ w45.cell? ⟨(ad151.add ((x6_1).toNat * 3)).block, (ad151.add ((x6_1).toNat * 3)).off + 1, none⟩ = some (.int .i16 ((rd_T106 l0 x6_1).f1)) ∧ w45.cell? ⟨(ad151.add ((x6_1).toNat * 3)).block, (ad151.add ((x6_1).toNat * 3)).off + 2, none⟩ = some (.int .i16 ((rd_T106 l0 x6_1).f2)) := hS_
                      refine norm_ (a' := ?_) ?_ ?_
                      rotate_left
                      ·simp only [putAll, Act.put, List.setIfInBounds_toArray, List.set_cons_zero, List.set_cons_succ]
                       rfl
                      refine two_ (i := 1) (j := 7) (Ni := some 29) (Nj := some 9) #[true, true, true, true, true, true, false, false, true, false, false] #[true, false, true, true, true, true, false, true, true, false, false] rfl rfl rfl rfl (two_of HT_.out (by kernel_rfl)) (by decide) (by decide) (fun K hK => ?_) (fun K hK => ?_)
                      ·skip
                       refine goes_ Try.func82 (by kernel_rfl) rfl #[.agg #[.int .i16 ((rd_T106 l0 x23_1).f0), .int .i16 ((rd_T106 l0 x23_1).f1), .int .i16 ((rd_T106 l0 x23_1).f2)]] (by rfl) rfl rfl (by (try simp only [List.map_toArray, List.map_cons, List.map_nil]); first | done | rfl | (simp only [List.length_drop, List.length_take]; rfl)) ?_
                       with_reducible refine (impl_Yarn_count.calls k1 ((rd_T106 l0 x23_1).f0) ((rd_T106 l0 x23_1).f1) ((rd_T106 l0 x23_1).f2) t153 t154 _ A13.out).mono ?_
                       rintro e w46 ⟨rfl, hb⟩
                       refine ⟨_, rfl, ?_⟩
                       have n0_ := Aside0.mk (blk_below (g := gb146) (o := .cells #[.int .i64 0, .int .i64 0] 45 (0, 0)) BK146.out hb)
                       have n1_ := Aside0.mk (blk_below (g := gb152) (o := .cells #[.int .i16 ((rd_T106 l0 x23_1).f0), .int .i16 ((rd_T106 l0 x23_1).f1), .int .i16 ((rd_T106 l0 x23_1).f2)] 106 (0, 0)) BK152.out hb)
                       have n2_ := Aside0.mk (blk_below (g := gb159) (o := .cells #[.int .i64 0, .int .i64 0] 45 (0, 0)) BK159.out hb)
                       have n3_ := Aside0.mk (below_step HB.out hb)
                       clear BK146
                       clear BK152
                       clear BK159
                       clear HB
                       have BK146 := n0_
                       have BK152 := n1_
                       have BK159 := n2_
                       have HB := n3_
                       clear n0_ n1_ n2_ n3_
                       (try clear hb)
                       (try clear hb2)
                       (try clear hk)
                       (try clear hi)
                       refine hK.out _ _ ⟨(blk_cell BK152.out 0).trans rfl, (blk_cell BK152.out 1).trans rfl, (blk_cell BK152.out 2).trans rfl, ((HB.out.cell (World.block_lt_of_cell? w _ hw155_0)).trans hw155_0), ((HB.out.cell (World.block_lt_of_cell? w _ hw155_1)).trans hw155_1), ((HB.out.cell (World.block_lt_of_cell? w _ hw155_2)).trans hw155_2)⟩ (fun hHeld => ?_)
                       clear hK K
                       refine norm_ (a' := ?_) ?_ ?_
                       rotate_left
                       ·show Act.put _ (some 29) _ = _
                        simp only [Act.put, List.setIfInBounds_toArray, List.set_cons_zero, List.set_cons_succ, i64_w, i32_w]
                        rfl
                       exact norm_ (by first | (simp only [putAll, Act.put, List.setIfInBounds_toArray, List.set_cons_zero, List.set_cons_succ]; done) | (simp only [putAll, Act.put, List.setIfInBounds_toArray, List.set_cons_zero, List.set_cons_succ]; rfl)) (hJ1_8 (gb159) _ ⟨hHeld, BK146.out, BK152.out, BK159.out, GW159.out, GE159.out, NB146_159.out, NB159_146.out, NB152_159.out, NB159_152.out, HB.out⟩)
                      ·skip
                       refine box_step ?hg (N := 9) ?hd (cs := #[.int .i64 0, .int .i64 0]) (t := 45) ?hr ?_; (case hd => rfl); (case hg => rfl); (case hr => first | (go_simp; done) | (go_simp; rfl))
                       intro gb158 hg w46 hbox hb
                       have n0_ := Aside0.mk (blk_below (g := gb146) (o := .cells #[.int .i64 0, .int .i64 0] 45 (0, 0)) BK146.out hb)
                       have n1_ := Aside0.mk (blk_below (g := gb152) (o := .cells #[.int .i16 ((rd_T106 l0 x23_1).f0), .int .i16 ((rd_T106 l0 x23_1).f1), .int .i16 ((rd_T106 l0 x23_1).f2)] 106 (0, 0)) BK152.out hb)
                       have n2_ := Aside0.mk (blk_below (g := gb159) (o := .cells #[.int .i64 0, .int .i64 0] 45 (0, 0)) BK159.out hb)
                       have n3_ := Aside0.mk (below_step HB.out hb)
                       have n4_ := Aside0.mk (hbox)
                       have n5_ := Aside0.mk ((by rw [hg]; exact (below_size HB.out) : w.heap.size ≤ gb158))
                       have n6_ := n5_
                       have n7_ := Aside0.mk ((by rw [hg]; exact Nat.ne_of_lt (blk_lt (g := gb146) (o := .cells #[.int .i64 0, .int .i64 0] 45 (0, 0)) BK146.out) : gb146 ≠ gb158))
                       have n8_ := Aside0.mk (Ne.symm n7_.out)
                       have n9_ := Aside0.mk ((by rw [hg]; exact Nat.ne_of_lt (blk_lt (g := gb152) (o := .cells #[.int .i16 ((rd_T106 l0 x23_1).f0), .int .i16 ((rd_T106 l0 x23_1).f1), .int .i16 ((rd_T106 l0 x23_1).f2)] 106 (0, 0)) BK152.out) : gb152 ≠ gb158))
                       have n10_ := Aside0.mk (Ne.symm n9_.out)
                       have n11_ := Aside0.mk ((by rw [hg]; exact Nat.ne_of_lt (blk_lt (g := gb159) (o := .cells #[.int .i64 0, .int .i64 0] 45 (0, 0)) BK159.out) : gb159 ≠ gb158))
                       have n12_ := Aside0.mk (Ne.symm n11_.out)
                       clear BK146
                       clear BK152
                       clear BK159
                       clear HB
                       have BK146 := n0_
                       have BK152 := n1_
                       have BK159 := n2_
                       have HB := n3_
                       have BK158 := n4_
                       have GW158 := n5_
                       have GE158 := n6_
                       have NB146_158 := n7_
                       have NB158_146 := n8_
                       have NB152_158 := n9_
                       have NB158_152 := n10_
                       have NB159_158 := n11_
                       have NB158_159 := n12_
                       clear n0_ n1_ n2_ n3_ n4_ n5_ n6_ n7_ n8_ n9_ n10_ n11_ n12_
                       clear hb hbox hg
                       refine hK.out _ _ ⟨(blk_cell BK152.out 0).trans rfl, (blk_cell BK152.out 1).trans rfl, (blk_cell BK152.out 2).trans rfl, ((HB.out.cell (World.block_lt_of_cell? w _ hw155_0)).trans hw155_0), ((HB.out.cell (World.block_lt_of_cell? w _ hw155_1)).trans hw155_1), ((HB.out.cell (World.block_lt_of_cell? w _ hw155_2)).trans hw155_2)⟩ (fun hHeld => ?_)
                       clear hK K
                       refine norm_ (a' := ?_) ?_ ?_
                       rotate_left
                       ·show Act.put _ (some 9) _ = _
                        simp only [Act.put, List.setIfInBounds_toArray, List.set_cons_zero, List.set_cons_succ, i64_w, i32_w]
                        rfl
                       exact norm_ (by first | (simp only [putAll, Act.put, List.setIfInBounds_toArray, List.set_cons_zero, List.set_cons_succ]; done) | (simp only [putAll, Act.put, List.setIfInBounds_toArray, List.set_cons_zero, List.set_cons_succ]; rfl)) (hJ7_8 (gb158, gb159) _ ⟨hHeld, BK146.out, BK152.out, BK158.out, BK159.out, GW158.out, GE158.out, NB146_158.out, NB158_146.out, NB152_158.out, NB158_152.out, NB159_158.out, NB158_159.out, GW159.out, GE159.out, NB146_159.out, NB159_146.out, NB152_159.out, NB159_152.out, HB.out⟩)
                    ·skip
                     rintro gb158 w45 ⟨hS_, h0_, h1_, h2_, h3_, h4_, h5_, h6_, h7_, h8_, h9_⟩
                     have n0_ : Aside0 (w45.heap[gb146]? = some (.cells #[.int .i64 0, .int .i64 0] 45 (0, 0))) := ⟨h0_⟩
                     have n1_ : Aside0 (w45.heap[gb152]? = some (.cells #[.int .i16 ((rd_T106 l0 x23_1).f0), .int .i16 ((rd_T106 l0 x23_1).f1), .int .i16 ((rd_T106 l0 x23_1).f2)] 106 (0, 0))) := ⟨h1_⟩
                     have n2_ : Aside0 (w45.heap[gb158]? = some (.cells #[.int .i64 0, .int .i64 0] 45 (0, 0))) := ⟨h2_⟩
                     have n3_ : Aside0 (w.heap.size ≤ gb158) := ⟨h3_⟩
                     have n4_ : Aside0 (w.heap.size ≤ gb158) := ⟨h4_⟩
                     have n5_ : Aside0 (gb146 ≠ gb158) := ⟨h5_⟩
                     have n6_ : Aside0 (gb158 ≠ gb146) := ⟨h6_⟩
                     have n7_ : Aside0 (gb152 ≠ gb158) := ⟨h7_⟩
                     have n8_ : Aside0 (gb158 ≠ gb152) := ⟨h8_⟩
                     have n9_ : Aside0 (Below w.heap.size w w45) := ⟨h9_⟩
                     clear BK146
                     clear BK152
                     clear HB
                     clear h0_ h1_ h2_ h3_ h4_ h5_ h6_ h7_ h8_ h9_
                     have BK146 := n0_
                     have BK152 := n1_
                     have BK158 := n2_
                     have GW158 := n3_
                     have GE158 := n4_
                     have NB146_158 := n5_
                     have NB158_146 := n6_
                     have NB152_158 := n7_
                     have NB158_152 := n8_
                     have HB := n9_
                     clear n0_ n1_ n2_ n3_ n4_ n5_ n6_ n7_ n8_ n9_
                     have hHeld : w45.cell? ⟨gb152, 0, none⟩ = some (.int .i16 ((rd_T106 l0 x23_1).f0)) ∧ w45.cell? ⟨gb152, 1, none⟩ = some (.int .i16 ((rd_T106 l0 x23_1).f1)) ∧ w45.cell? ⟨gb152, 2, none⟩ = some (.int .i16 ((rd_T106 l0 x23_1).f2)) ∧ w45.cell? (ad151.add ((x6_1).toNat * 3)) = some (.int .i16 ((rd_T106 l0 x6_1).f0)) ∧ w45.cell? ⟨(ad151.add ((x6_1).toNat * 3)).block, (ad151.add ((x6_1).toNat * 3)).off + 1, none⟩ = some (.int .i16 ((rd_T106 l0 x6_1).f1)) ∧ w45.cell? ⟨(ad151.add ((x6_1).toNat * 3)).block, (ad151.add ((x6_1).toNat * 3)).off + 2, none⟩ = some (.int .i16 ((rd_T106 l0 x6_1).f2)) := hS_
                     refine norm_ (a' := ?_) ?_ ?_
                     rotate_left
                     ·simp only [putAll, Act.put, List.setIfInBounds_toArray, List.set_cons_zero, List.set_cons_succ]
                      rfl
                     refine two_ (i := 1) (j := 8) (Ni := some 29) (Nj := some 10) #[true, true, true, true, true, true, false, true, false, false, false] #[true, false, true, true, true, true, false, true, true, false, false] rfl rfl rfl rfl (two_of HT_.out (by kernel_rfl)) (by decide) (by decide) (fun K hK => ?_) (fun K hK => ?_)
                     ·skip
                      refine goes_ Try.func82 (by kernel_rfl) rfl #[.agg #[.int .i16 ((rd_T106 l0 x23_1).f0), .int .i16 ((rd_T106 l0 x23_1).f1), .int .i16 ((rd_T106 l0 x23_1).f2)]] (by rfl) rfl rfl (by (try simp only [List.map_toArray, List.map_cons, List.map_nil]); first | done | rfl | (simp only [List.length_drop, List.length_take]; rfl)) ?_
                      with_reducible refine (impl_Yarn_count.calls k1 ((rd_T106 l0 x23_1).f0) ((rd_T106 l0 x23_1).f1) ((rd_T106 l0 x23_1).f2) t153 t154 _ A13.out).mono ?_
                      rintro e w46 ⟨rfl, hb⟩
                      refine ⟨_, rfl, ?_⟩
                      have n0_ := Aside0.mk (blk_below (g := gb146) (o := .cells #[.int .i64 0, .int .i64 0] 45 (0, 0)) BK146.out hb)
                      have n1_ := Aside0.mk (blk_below (g := gb152) (o := .cells #[.int .i16 ((rd_T106 l0 x23_1).f0), .int .i16 ((rd_T106 l0 x23_1).f1), .int .i16 ((rd_T106 l0 x23_1).f2)] 106 (0, 0)) BK152.out hb)
                      have n2_ := Aside0.mk (blk_below (g := gb158) (o := .cells #[.int .i64 0, .int .i64 0] 45 (0, 0)) BK158.out hb)
                      have n3_ := Aside0.mk (below_step HB.out hb)
                      clear BK146
                      clear BK152
                      clear BK158
                      clear HB
                      have BK146 := n0_
                      have BK152 := n1_
                      have BK158 := n2_
                      have HB := n3_
                      clear n0_ n1_ n2_ n3_
                      (try clear hb)
                      (try clear hb2)
                      (try clear hk)
                      (try clear hi)
                      refine hK.out _ _ ⟨(blk_cell BK152.out 0).trans rfl, (blk_cell BK152.out 1).trans rfl, (blk_cell BK152.out 2).trans rfl, ((HB.out.cell (World.block_lt_of_cell? w _ hw155_0)).trans hw155_0), ((HB.out.cell (World.block_lt_of_cell? w _ hw155_1)).trans hw155_1), ((HB.out.cell (World.block_lt_of_cell? w _ hw155_2)).trans hw155_2)⟩ (fun hHeld => ?_)
                      clear hK K
                      refine norm_ (a' := ?_) ?_ ?_
                      rotate_left
                      ·show Act.put _ (some 29) _ = _
                       simp only [Act.put, List.setIfInBounds_toArray, List.set_cons_zero, List.set_cons_succ, i64_w, i32_w]
                       rfl
                      exact norm_ (by first | (simp only [putAll, Act.put, List.setIfInBounds_toArray, List.set_cons_zero, List.set_cons_succ]; done) | (simp only [putAll, Act.put, List.setIfInBounds_toArray, List.set_cons_zero, List.set_cons_succ]; rfl)) (hJ1_7 (gb158) _ ⟨hHeld, BK146.out, BK152.out, BK158.out, GW158.out, GE158.out, NB146_158.out, NB158_146.out, NB152_158.out, NB158_152.out, HB.out⟩)
                     ·skip
                      refine box_step ?hg (N := 10) ?hd (cs := #[.int .i64 0, .int .i64 0]) (t := 45) ?hr ?_; (case hd => rfl); (case hg => rfl); (case hr => first | (go_simp; done) | (go_simp; rfl))
                      intro gb159 hg w46 hbox hb
                      have n0_ := Aside0.mk (blk_below (g := gb146) (o := .cells #[.int .i64 0, .int .i64 0] 45 (0, 0)) BK146.out hb)
                      have n1_ := Aside0.mk (blk_below (g := gb152) (o := .cells #[.int .i16 ((rd_T106 l0 x23_1).f0), .int .i16 ((rd_T106 l0 x23_1).f1), .int .i16 ((rd_T106 l0 x23_1).f2)] 106 (0, 0)) BK152.out hb)
                      have n2_ := Aside0.mk (blk_below (g := gb158) (o := .cells #[.int .i64 0, .int .i64 0] 45 (0, 0)) BK158.out hb)
                      have n3_ := Aside0.mk (below_step HB.out hb)
                      have n4_ := Aside0.mk (hbox)
                      have n5_ := Aside0.mk ((by rw [hg]; exact (below_size HB.out) : w.heap.size ≤ gb159))
                      have n6_ := n5_
                      have n7_ := Aside0.mk ((by rw [hg]; exact Nat.ne_of_lt (blk_lt (g := gb146) (o := .cells #[.int .i64 0, .int .i64 0] 45 (0, 0)) BK146.out) : gb146 ≠ gb159))
                      have n8_ := Aside0.mk (Ne.symm n7_.out)
                      have n9_ := Aside0.mk ((by rw [hg]; exact Nat.ne_of_lt (blk_lt (g := gb152) (o := .cells #[.int .i16 ((rd_T106 l0 x23_1).f0), .int .i16 ((rd_T106 l0 x23_1).f1), .int .i16 ((rd_T106 l0 x23_1).f2)] 106 (0, 0)) BK152.out) : gb152 ≠ gb159))
                      have n10_ := Aside0.mk (Ne.symm n9_.out)
                      have n11_ := Aside0.mk ((by rw [hg]; exact Nat.ne_of_lt (blk_lt (g := gb158) (o := .cells #[.int .i64 0, .int .i64 0] 45 (0, 0)) BK158.out) : gb158 ≠ gb159))
                      have n12_ := Aside0.mk (Ne.symm n11_.out)
                      clear BK146
                      clear BK152
                      clear BK158
                      clear HB
                      have BK146 := n0_
                      have BK152 := n1_
                      have BK158 := n2_
                      have HB := n3_
                      have BK159 := n4_
                      have GW159 := n5_
                      have GE159 := n6_
                      have NB146_159 := n7_
                      have NB159_146 := n8_
                      have NB152_159 := n9_
                      have NB159_152 := n10_
                      have NB158_159 := n11_
                      have NB159_158 := n12_
                      clear n0_ n1_ n2_ n3_ n4_ n5_ n6_ n7_ n8_ n9_ n10_ n11_ n12_
                      clear hb hbox hg
                      refine hK.out _ _ ⟨(blk_cell BK152.out 0).trans rfl, (blk_cell BK152.out 1).trans rfl, (blk_cell BK152.out 2).trans rfl, ((HB.out.cell (World.block_lt_of_cell? w _ hw155_0)).trans hw155_0), ((HB.out.cell (World.block_lt_of_cell? w _ hw155_1)).trans hw155_1), ((HB.out.cell (World.block_lt_of_cell? w _ hw155_2)).trans hw155_2)⟩ (fun hHeld => ?_)
                      clear hK K
                      refine norm_ (a' := ?_) ?_ ?_
                      rotate_left
                      ·show Act.put _ (some 10) _ = _
                       simp only [Act.put, List.setIfInBounds_toArray, List.set_cons_zero, List.set_cons_succ, i64_w, i32_w]
                       rfl
                      exact norm_ (by first | (simp only [putAll, Act.put, List.setIfInBounds_toArray, List.set_cons_zero, List.set_cons_succ]; done) | (simp only [putAll, Act.put, List.setIfInBounds_toArray, List.set_cons_zero, List.set_cons_succ]; rfl)) (hJ7_8 (gb158, gb159) _ ⟨hHeld, BK146.out, BK152.out, BK158.out, BK159.out, GW158.out, GE158.out, NB146_158.out, NB158_146.out, NB152_158.out, NB158_152.out, NB159_158.out, NB158_159.out, GW159.out, GE159.out, NB146_159.out, NB159_146.out, NB152_159.out, NB159_152.out, HB.out⟩)
                   ·skip
                    rintro _ w45 ⟨hS_, h0_, h1_, h2_⟩
                    have n0_ : Aside0 (w45.heap[gb146]? = some (.cells #[.int .i64 0, .int .i64 0] 45 (0, 0))) := ⟨h0_⟩
                    have n1_ : Aside0 (w45.heap[gb152]? = some (.cells #[.int .i16 ((rd_T106 l0 x23_1).f0), .int .i16 ((rd_T106 l0 x23_1).f1), .int .i16 ((rd_T106 l0 x23_1).f2)] 106 (0, 0))) := ⟨h1_⟩
                    have n2_ : Aside0 (Below w.heap.size w w45) := ⟨h2_⟩
                    clear BK146
                    clear BK152
                    clear HB
                    clear h0_ h1_ h2_
                    have BK146 := n0_
                    have BK152 := n1_
                    have HB := n2_
                    clear n0_ n1_ n2_
                    have hHeld : w45.cell? ⟨gb152, 0, none⟩ = some (.int .i16 ((rd_T106 l0 x23_1).f0)) ∧ w45.cell? ⟨gb152, 1, none⟩ = some (.int .i16 ((rd_T106 l0 x23_1).f1)) ∧ w45.cell? ⟨gb152, 2, none⟩ = some (.int .i16 ((rd_T106 l0 x23_1).f2)) ∧ w45.cell? (ad151.add ((x6_1).toNat * 3)) = some (.int .i16 ((rd_T106 l0 x6_1).f0)) ∧ w45.cell? ⟨(ad151.add ((x6_1).toNat * 3)).block, (ad151.add ((x6_1).toNat * 3)).off + 1, none⟩ = some (.int .i16 ((rd_T106 l0 x6_1).f1)) ∧ w45.cell? ⟨(ad151.add ((x6_1).toNat * 3)).block, (ad151.add ((x6_1).toNat * 3)).off + 2, none⟩ = some (.int .i16 ((rd_T106 l0 x6_1).f2)) := hS_
                    refine norm_ (a' := ?_) ?_ ?_
                    rotate_left
                    ·simp only [putAll, Act.put, List.setIfInBounds_toArray, List.set_cons_zero, List.set_cons_succ]
                     rfl
                    refine three_ (i := 6) (j := 7) (k := 8) (Ni := some 34) (Nj := some 9) (Nk := some 10) #[true, true, true, true, true, true, true, false, false, false, false] #[true, true, true, true, true, true, false, true, false, false, false] #[true, true, true, true, true, true, false, false, true, false, false] rfl rfl rfl rfl rfl rfl (three_of HT_.out (by kernel_rfl)) (by decide) (by decide) (by decide) (fun K hK => ?_) (fun K hK => ?_) (fun K hK => ?_)
                    ·skip
                     refine goes_ Try.func82 (by kernel_rfl) rfl #[.agg #[.int .i16 ((rd_T106 l0 x6_1).f0), .int .i16 ((rd_T106 l0 x6_1).f1), .int .i16 ((rd_T106 l0 x6_1).f2)]] (by rfl) rfl rfl (by (try simp only [List.map_toArray, List.map_cons, List.map_nil]); first | done | rfl | (simp only [List.length_drop, List.length_take]; rfl)) ?_
                     with_reducible refine (impl_Yarn_count.calls k1 ((rd_T106 l0 x6_1).f0) ((rd_T106 l0 x6_1).f1) ((rd_T106 l0 x6_1).f2) t156 t157 _ A16.out).mono ?_
                     rintro e w46 ⟨rfl, hb⟩
                     refine ⟨_, rfl, ?_⟩
                     have n0_ := Aside0.mk (blk_below (g := gb146) (o := .cells #[.int .i64 0, .int .i64 0] 45 (0, 0)) BK146.out hb)
                     have n1_ := Aside0.mk (blk_below (g := gb152) (o := .cells #[.int .i16 ((rd_T106 l0 x23_1).f0), .int .i16 ((rd_T106 l0 x23_1).f1), .int .i16 ((rd_T106 l0 x23_1).f2)] 106 (0, 0)) BK152.out hb)
                     have n2_ := Aside0.mk (below_step HB.out hb)
                     clear BK146
                     clear BK152
                     clear HB
                     have BK146 := n0_
                     have BK152 := n1_
                     have HB := n2_
                     clear n0_ n1_ n2_
                     (try clear hb)
                     (try clear hb2)
                     (try clear hk)
                     (try clear hi)
                     refine hK.out _ _ ⟨(blk_cell BK152.out 0).trans rfl, (blk_cell BK152.out 1).trans rfl, (blk_cell BK152.out 2).trans rfl, ((HB.out.cell (World.block_lt_of_cell? w _ hw155_0)).trans hw155_0), ((HB.out.cell (World.block_lt_of_cell? w _ hw155_1)).trans hw155_1), ((HB.out.cell (World.block_lt_of_cell? w _ hw155_2)).trans hw155_2)⟩ (fun hHeld => ?_)
                     clear hK K
                     refine norm_ (a' := ?_) ?_ ?_
                     rotate_left
                     ·show Act.put _ (some 34) _ = _
                      simp only [Act.put, List.setIfInBounds_toArray, List.set_cons_zero, List.set_cons_succ, i64_w, i32_w]
                      rfl
                     exact norm_ (by first | (simp only [putAll, Act.put, List.setIfInBounds_toArray, List.set_cons_zero, List.set_cons_succ]; done) | (simp only [putAll, Act.put, List.setIfInBounds_toArray, List.set_cons_zero, List.set_cons_succ]; rfl)) (hJ1_6 () _ ⟨hHeld, BK146.out, BK152.out, HB.out⟩)
                    ·skip
                     refine box_step ?hg (N := 9) ?hd (cs := #[.int .i64 0, .int .i64 0]) (t := 45) ?hr ?_; (case hd => rfl); (case hg => rfl); (case hr => first | (go_simp; done) | (go_simp; rfl))
                     intro gb158 hg w46 hbox hb
                     have n0_ := Aside0.mk (blk_below (g := gb146) (o := .cells #[.int .i64 0, .int .i64 0] 45 (0, 0)) BK146.out hb)
                     have n1_ := Aside0.mk (blk_below (g := gb152) (o := .cells #[.int .i16 ((rd_T106 l0 x23_1).f0), .int .i16 ((rd_T106 l0 x23_1).f1), .int .i16 ((rd_T106 l0 x23_1).f2)] 106 (0, 0)) BK152.out hb)
                     have n2_ := Aside0.mk (below_step HB.out hb)
                     have n3_ := Aside0.mk (hbox)
                     have n4_ := Aside0.mk ((by rw [hg]; exact (below_size HB.out) : w.heap.size ≤ gb158))
                     have n5_ := n4_
                     have n6_ := Aside0.mk ((by rw [hg]; exact Nat.ne_of_lt (blk_lt (g := gb146) (o := .cells #[.int .i64 0, .int .i64 0] 45 (0, 0)) BK146.out) : gb146 ≠ gb158))
                     have n7_ := Aside0.mk (Ne.symm n6_.out)
                     have n8_ := Aside0.mk ((by rw [hg]; exact Nat.ne_of_lt (blk_lt (g := gb152) (o := .cells #[.int .i16 ((rd_T106 l0 x23_1).f0), .int .i16 ((rd_T106 l0 x23_1).f1), .int .i16 ((rd_T106 l0 x23_1).f2)] 106 (0, 0)) BK152.out) : gb152 ≠ gb158))
                     have n9_ := Aside0.mk (Ne.symm n8_.out)
                     clear BK146
                     clear BK152
                     clear HB
                     have BK146 := n0_
                     have BK152 := n1_
                     have HB := n2_
                     have BK158 := n3_
                     have GW158 := n4_
                     have GE158 := n5_
                     have NB146_158 := n6_
                     have NB158_146 := n7_
                     have NB152_158 := n8_
                     have NB158_152 := n9_
                     clear n0_ n1_ n2_ n3_ n4_ n5_ n6_ n7_ n8_ n9_
                     clear hb hbox hg
                     refine hK.out _ _ ⟨(blk_cell BK152.out 0).trans rfl, (blk_cell BK152.out 1).trans rfl, (blk_cell BK152.out 2).trans rfl, ((HB.out.cell (World.block_lt_of_cell? w _ hw155_0)).trans hw155_0), ((HB.out.cell (World.block_lt_of_cell? w _ hw155_1)).trans hw155_1), ((HB.out.cell (World.block_lt_of_cell? w _ hw155_2)).trans hw155_2)⟩ (fun hHeld => ?_)
                     clear hK K
                     refine norm_ (a' := ?_) ?_ ?_
                     rotate_left
                     ·show Act.put _ (some 9) _ = _
                      simp only [Act.put, List.setIfInBounds_toArray, List.set_cons_zero, List.set_cons_succ, i64_w, i32_w]
                      rfl
                     exact norm_ (by first | (simp only [putAll, Act.put, List.setIfInBounds_toArray, List.set_cons_zero, List.set_cons_succ]; done) | (simp only [putAll, Act.put, List.setIfInBounds_toArray, List.set_cons_zero, List.set_cons_succ]; rfl)) (hJ1_7 (gb158) _ ⟨hHeld, BK146.out, BK152.out, BK158.out, GW158.out, GE158.out, NB146_158.out, NB158_146.out, NB152_158.out, NB158_152.out, HB.out⟩)
                    ·skip
                     refine box_step ?hg (N := 10) ?hd (cs := #[.int .i64 0, .int .i64 0]) (t := 45) ?hr ?_; (case hd => rfl); (case hg => rfl); (case hr => first | (go_simp; done) | (go_simp; rfl))
                     intro gb159 hg w46 hbox hb
                     have n0_ := Aside0.mk (blk_below (g := gb146) (o := .cells #[.int .i64 0, .int .i64 0] 45 (0, 0)) BK146.out hb)
                     have n1_ := Aside0.mk (blk_below (g := gb152) (o := .cells #[.int .i16 ((rd_T106 l0 x23_1).f0), .int .i16 ((rd_T106 l0 x23_1).f1), .int .i16 ((rd_T106 l0 x23_1).f2)] 106 (0, 0)) BK152.out hb)
                     have n2_ := Aside0.mk (below_step HB.out hb)
                     have n3_ := Aside0.mk (hbox)
                     have n4_ := Aside0.mk ((by rw [hg]; exact (below_size HB.out) : w.heap.size ≤ gb159))
                     have n5_ := n4_
                     have n6_ := Aside0.mk ((by rw [hg]; exact Nat.ne_of_lt (blk_lt (g := gb146) (o := .cells #[.int .i64 0, .int .i64 0] 45 (0, 0)) BK146.out) : gb146 ≠ gb159))
                     have n7_ := Aside0.mk (Ne.symm n6_.out)
                     have n8_ := Aside0.mk ((by rw [hg]; exact Nat.ne_of_lt (blk_lt (g := gb152) (o := .cells #[.int .i16 ((rd_T106 l0 x23_1).f0), .int .i16 ((rd_T106 l0 x23_1).f1), .int .i16 ((rd_T106 l0 x23_1).f2)] 106 (0, 0)) BK152.out) : gb152 ≠ gb159))
                     have n9_ := Aside0.mk (Ne.symm n8_.out)
                     clear BK146
                     clear BK152
                     clear HB
                     have BK146 := n0_
                     have BK152 := n1_
                     have HB := n2_
                     have BK159 := n3_
                     have GW159 := n4_
                     have GE159 := n5_
                     have NB146_159 := n6_
                     have NB159_146 := n7_
                     have NB152_159 := n8_
                     have NB159_152 := n9_
                     clear n0_ n1_ n2_ n3_ n4_ n5_ n6_ n7_ n8_ n9_
                     clear hb hbox hg
                     refine hK.out _ _ ⟨(blk_cell BK152.out 0).trans rfl, (blk_cell BK152.out 1).trans rfl, (blk_cell BK152.out 2).trans rfl, ((HB.out.cell (World.block_lt_of_cell? w _ hw155_0)).trans hw155_0), ((HB.out.cell (World.block_lt_of_cell? w _ hw155_1)).trans hw155_1), ((HB.out.cell (World.block_lt_of_cell? w _ hw155_2)).trans hw155_2)⟩ (fun hHeld => ?_)
                     clear hK K
                     refine norm_ (a' := ?_) ?_ ?_
                     rotate_left
                     ·show Act.put _ (some 10) _ = _
                      simp only [Act.put, List.setIfInBounds_toArray, List.set_cons_zero, List.set_cons_succ, i64_w, i32_w]
                      rfl
                     exact norm_ (by first | (simp only [putAll, Act.put, List.setIfInBounds_toArray, List.set_cons_zero, List.set_cons_succ]; done) | (simp only [putAll, Act.put, List.setIfInBounds_toArray, List.set_cons_zero, List.set_cons_succ]; rfl)) (hJ1_8 (gb159) _ ⟨hHeld, BK146.out, BK152.out, BK159.out, GW159.out, GE159.out, NB146_159.out, NB159_146.out, NB152_159.out, NB159_152.out, HB.out⟩)
                  ·skip
                   rintro ⟨gb158, gb159⟩ w46 ⟨hS_, h0_, h1_, h2_, h3_, h4_, h5_, h6_, h7_, h8_, h9_, h10_, h11_, h12_, h13_, h14_, h15_, h16_, h17_, h18_⟩
                   have n0_ : Aside0 (w46.heap[gb146]? = some (.cells #[.int .i64 0, .int .i64 0] 45 (0, 0))) := ⟨h0_⟩
                   have n1_ : Aside0 (w46.heap[gb152]? = some (.cells #[.int .i16 ((rd_T106 l0 x23_1).f0), .int .i16 ((rd_T106 l0 x23_1).f1), .int .i16 ((rd_T106 l0 x23_1).f2)] 106 (0, 0))) := ⟨h1_⟩
                   have n2_ : Aside0 (w46.heap[gb158]? = some (.cells #[.int .i64 0, .int .i64 0] 45 (0, 0))) := ⟨h2_⟩
                   have n3_ : Aside0 (w46.heap[gb159]? = some (.cells #[.int .i64 0, .int .i64 0] 45 (0, 0))) := ⟨h3_⟩
                   have n4_ : Aside0 (w.heap.size ≤ gb158) := ⟨h4_⟩
                   have n5_ : Aside0 (w.heap.size ≤ gb158) := ⟨h5_⟩
                   have n6_ : Aside0 (gb146 ≠ gb158) := ⟨h6_⟩
                   have n7_ : Aside0 (gb158 ≠ gb146) := ⟨h7_⟩
                   have n8_ : Aside0 (gb152 ≠ gb158) := ⟨h8_⟩
                   have n9_ : Aside0 (gb158 ≠ gb152) := ⟨h9_⟩
                   have n10_ : Aside0 (gb159 ≠ gb158) := ⟨h10_⟩
                   have n11_ : Aside0 (gb158 ≠ gb159) := ⟨h11_⟩
                   have n12_ : Aside0 (w.heap.size ≤ gb159) := ⟨h12_⟩
                   have n13_ : Aside0 (w.heap.size ≤ gb159) := ⟨h13_⟩
                   have n14_ : Aside0 (gb146 ≠ gb159) := ⟨h14_⟩
                   have n15_ : Aside0 (gb159 ≠ gb146) := ⟨h15_⟩
                   have n16_ : Aside0 (gb152 ≠ gb159) := ⟨h16_⟩
                   have n17_ : Aside0 (gb159 ≠ gb152) := ⟨h17_⟩
                   have n18_ : Aside0 (Below w.heap.size w w46) := ⟨h18_⟩
                   clear BK146
                   clear BK152
                   clear HB
                   clear h0_ h1_ h2_ h3_ h4_ h5_ h6_ h7_ h8_ h9_ h10_ h11_ h12_ h13_ h14_ h15_ h16_ h17_ h18_
                   have BK146 := n0_
                   have BK152 := n1_
                   have BK158 := n2_
                   have BK159 := n3_
                   have GW158 := n4_
                   have GE158 := n5_
                   have NB146_158 := n6_
                   have NB158_146 := n7_
                   have NB152_158 := n8_
                   have NB158_152 := n9_
                   have NB159_158 := n10_
                   have NB158_159 := n11_
                   have GW159 := n12_
                   have GE159 := n13_
                   have NB146_159 := n14_
                   have NB159_146 := n15_
                   have NB152_159 := n16_
                   have NB159_152 := n17_
                   have HB := n18_
                   clear n0_ n1_ n2_ n3_ n4_ n5_ n6_ n7_ n8_ n9_ n10_ n11_ n12_ n13_ n14_ n15_ n16_ n17_ n18_
                   have hHeld : w46.cell? ⟨gb152, 0, none⟩ = some (.int .i16 ((rd_T106 l0 x23_1).f0)) ∧ w46.cell? ⟨gb152, 1, none⟩ = some (.int .i16 ((rd_T106 l0 x23_1).f1)) ∧ w46.cell? ⟨gb152, 2, none⟩ = some (.int .i16 ((rd_T106 l0 x23_1).f2)) ∧ w46.cell? (ad151.add ((x6_1).toNat * 3)) = some (.int .i16 ((rd_T106 l0 x6_1).f0)) ∧ w46.cell? ⟨(ad151.add ((x6_1).toNat * 3)).block, (ad151.add ((x6_1).toNat * 3)).off + 1, none⟩ = some (.int .i16 ((rd_T106 l0 x6_1).f1)) ∧ w46.cell? ⟨(ad151.add ((x6_1).toNat * 3)).block, (ad151.add ((x6_1).toNat * 3)).off + 2, none⟩ = some (.int .i16 ((rd_T106 l0 x6_1).f2)) := hS_
                   refine norm_ (a' := ?_) ?_ ?_
                   rotate_left
                   ·simp only [putAll, Act.put, List.setIfInBounds_toArray, List.set_cons_zero, List.set_cons_succ]
                    rfl
                   refine one_ (i := 1) (N := some 29) #[true, true, true, true, true, true, false, true, true, false, false] rfl rfl (one_of HT_.out (by kernel_rfl)) (by decide) (fun K hK => ?_)
                   refine goes_ Try.func82 (by kernel_rfl) rfl #[.agg #[.int .i16 ((rd_T106 l0 x23_1).f0), .int .i16 ((rd_T106 l0 x23_1).f1), .int .i16 ((rd_T106 l0 x23_1).f2)]] (by rfl) rfl rfl (by (try simp only [List.map_toArray, List.map_cons, List.map_nil]); first | done | rfl | (simp only [List.length_drop, List.length_take]; rfl)) ?_
                   with_reducible refine (impl_Yarn_count.calls k1 ((rd_T106 l0 x23_1).f0) ((rd_T106 l0 x23_1).f1) ((rd_T106 l0 x23_1).f2) t153 t154 _ A13.out).mono ?_
                   rintro e w47 ⟨rfl, hb⟩
                   refine ⟨_, rfl, ?_⟩
                   have n0_ := Aside0.mk (blk_below (g := gb146) (o := .cells #[.int .i64 0, .int .i64 0] 45 (0, 0)) BK146.out hb)
                   have n1_ := Aside0.mk (blk_below (g := gb152) (o := .cells #[.int .i16 ((rd_T106 l0 x23_1).f0), .int .i16 ((rd_T106 l0 x23_1).f1), .int .i16 ((rd_T106 l0 x23_1).f2)] 106 (0, 0)) BK152.out hb)
                   have n2_ := Aside0.mk (blk_below (g := gb158) (o := .cells #[.int .i64 0, .int .i64 0] 45 (0, 0)) BK158.out hb)
                   have n3_ := Aside0.mk (blk_below (g := gb159) (o := .cells #[.int .i64 0, .int .i64 0] 45 (0, 0)) BK159.out hb)
                   have n4_ := Aside0.mk (below_step HB.out hb)
                   clear BK146
                   clear BK152
                   clear BK158
                   clear BK159
                   clear HB
                   have BK146 := n0_
                   have BK152 := n1_
                   have BK158 := n2_
                   have BK159 := n3_
                   have HB := n4_
                   clear n0_ n1_ n2_ n3_ n4_
                   (try clear hb)
                   (try clear hb2)
                   (try clear hk)
                   (try clear hi)
                   refine hK.out _ _ ⟨(blk_cell BK152.out 0).trans rfl, (blk_cell BK152.out 1).trans rfl, (blk_cell BK152.out 2).trans rfl, ((HB.out.cell (World.block_lt_of_cell? w _ hw155_0)).trans hw155_0), ((HB.out.cell (World.block_lt_of_cell? w _ hw155_1)).trans hw155_1), ((HB.out.cell (World.block_lt_of_cell? w _ hw155_2)).trans hw155_2)⟩ (fun hHeld => ?_)
                   clear hK K
                   refine norm_ (a' := ?_) ?_ ?_
                   rotate_left
                   ·show Act.put _ (some 29) _ = _
                    simp only [Act.put, List.setIfInBounds_toArray, List.set_cons_zero, List.set_cons_succ, i64_w, i32_w]
                    rfl
                   exact norm_ (by first | (simp only [putAll, Act.put, List.setIfInBounds_toArray, List.set_cons_zero, List.set_cons_succ]; done) | (simp only [putAll, Act.put, List.setIfInBounds_toArray, List.set_cons_zero, List.set_cons_succ]; rfl)) (hJ1_7_8 (gb158, gb159) _ ⟨hHeld, BK146.out, BK152.out, BK158.out, BK159.out, GW158.out, GE158.out, NB146_158.out, NB158_146.out, NB152_158.out, NB158_152.out, NB159_158.out, NB158_159.out, GW159.out, GE159.out, NB146_159.out, NB159_146.out, NB152_159.out, NB159_152.out, HB.out⟩)
                 ·skip
                  rintro gb159 w46 ⟨hS_, h0_, h1_, h2_, h3_, h4_, h5_, h6_, h7_, h8_, h9_⟩
                  have n0_ : Aside0 (w46.heap[gb146]? = some (.cells #[.int .i64 0, .int .i64 0] 45 (0, 0))) := ⟨h0_⟩
                  have n1_ : Aside0 (w46.heap[gb152]? = some (.cells #[.int .i16 ((rd_T106 l0 x23_1).f0), .int .i16 ((rd_T106 l0 x23_1).f1), .int .i16 ((rd_T106 l0 x23_1).f2)] 106 (0, 0))) := ⟨h1_⟩
                  have n2_ : Aside0 (w46.heap[gb159]? = some (.cells #[.int .i64 0, .int .i64 0] 45 (0, 0))) := ⟨h2_⟩
                  have n3_ : Aside0 (w.heap.size ≤ gb159) := ⟨h3_⟩
                  have n4_ : Aside0 (w.heap.size ≤ gb159) := ⟨h4_⟩
                  have n5_ : Aside0 (gb146 ≠ gb159) := ⟨h5_⟩
                  have n6_ : Aside0 (gb159 ≠ gb146) := ⟨h6_⟩
                  have n7_ : Aside0 (gb152 ≠ gb159) := ⟨h7_⟩
                  have n8_ : Aside0 (gb159 ≠ gb152) := ⟨h8_⟩
                  have n9_ : Aside0 (Below w.heap.size w w46) := ⟨h9_⟩
                  clear BK146
                  clear BK152
                  clear HB
                  clear h0_ h1_ h2_ h3_ h4_ h5_ h6_ h7_ h8_ h9_
                  have BK146 := n0_
                  have BK152 := n1_
                  have BK159 := n2_
                  have GW159 := n3_
                  have GE159 := n4_
                  have NB146_159 := n5_
                  have NB159_146 := n6_
                  have NB152_159 := n7_
                  have NB159_152 := n8_
                  have HB := n9_
                  clear n0_ n1_ n2_ n3_ n4_ n5_ n6_ n7_ n8_ n9_
                  have hHeld : w46.cell? ⟨gb152, 0, none⟩ = some (.int .i16 ((rd_T106 l0 x23_1).f0)) ∧ w46.cell? ⟨gb152, 1, none⟩ = some (.int .i16 ((rd_T106 l0 x23_1).f1)) ∧ w46.cell? ⟨gb152, 2, none⟩ = some (.int .i16 ((rd_T106 l0 x23_1).f2)) ∧ w46.cell? (ad151.add ((x6_1).toNat * 3)) = some (.int .i16 ((rd_T106 l0 x6_1).f0)) ∧ w46.cell? ⟨(ad151.add ((x6_1).toNat * 3)).block, (ad151.add ((x6_1).toNat * 3)).off + 1, none⟩ = some (.int .i16 ((rd_T106 l0 x6_1).f1)) ∧ w46.cell? ⟨(ad151.add ((x6_1).toNat * 3)).block, (ad151.add ((x6_1).toNat * 3)).off + 2, none⟩ = some (.int .i16 ((rd_T106 l0 x6_1).f2)) := hS_
                  refine norm_ (a' := ?_) ?_ ?_
                  rotate_left
                  ·simp only [putAll, Act.put, List.setIfInBounds_toArray, List.set_cons_zero, List.set_cons_succ]
                   rfl
                  refine two_ (i := 6) (j := 7) (Ni := some 34) (Nj := some 9) #[true, true, true, true, true, true, true, false, true, false, false] #[true, true, true, true, true, true, false, true, true, false, false] rfl rfl rfl rfl (two_of HT_.out (by kernel_rfl)) (by decide) (by decide) (fun K hK => ?_) (fun K hK => ?_)
                  ·skip
                   refine goes_ Try.func82 (by kernel_rfl) rfl #[.agg #[.int .i16 ((rd_T106 l0 x6_1).f0), .int .i16 ((rd_T106 l0 x6_1).f1), .int .i16 ((rd_T106 l0 x6_1).f2)]] (by rfl) rfl rfl (by (try simp only [List.map_toArray, List.map_cons, List.map_nil]); first | done | rfl | (simp only [List.length_drop, List.length_take]; rfl)) ?_
                   with_reducible refine (impl_Yarn_count.calls k1 ((rd_T106 l0 x6_1).f0) ((rd_T106 l0 x6_1).f1) ((rd_T106 l0 x6_1).f2) t156 t157 _ A16.out).mono ?_
                   rintro e w47 ⟨rfl, hb⟩
                   refine ⟨_, rfl, ?_⟩
                   have n0_ := Aside0.mk (blk_below (g := gb146) (o := .cells #[.int .i64 0, .int .i64 0] 45 (0, 0)) BK146.out hb)
                   have n1_ := Aside0.mk (blk_below (g := gb152) (o := .cells #[.int .i16 ((rd_T106 l0 x23_1).f0), .int .i16 ((rd_T106 l0 x23_1).f1), .int .i16 ((rd_T106 l0 x23_1).f2)] 106 (0, 0)) BK152.out hb)
                   have n2_ := Aside0.mk (blk_below (g := gb159) (o := .cells #[.int .i64 0, .int .i64 0] 45 (0, 0)) BK159.out hb)
                   have n3_ := Aside0.mk (below_step HB.out hb)
                   clear BK146
                   clear BK152
                   clear BK159
                   clear HB
                   have BK146 := n0_
                   have BK152 := n1_
                   have BK159 := n2_
                   have HB := n3_
                   clear n0_ n1_ n2_ n3_
                   (try clear hb)
                   (try clear hb2)
                   (try clear hk)
                   (try clear hi)
                   refine hK.out _ _ ⟨(blk_cell BK152.out 0).trans rfl, (blk_cell BK152.out 1).trans rfl, (blk_cell BK152.out 2).trans rfl, ((HB.out.cell (World.block_lt_of_cell? w _ hw155_0)).trans hw155_0), ((HB.out.cell (World.block_lt_of_cell? w _ hw155_1)).trans hw155_1), ((HB.out.cell (World.block_lt_of_cell? w _ hw155_2)).trans hw155_2)⟩ (fun hHeld => ?_)
                   clear hK K
                   refine norm_ (a' := ?_) ?_ ?_
                   rotate_left
                   ·show Act.put _ (some 34) _ = _
                    simp only [Act.put, List.setIfInBounds_toArray, List.set_cons_zero, List.set_cons_succ, i64_w, i32_w]
                    rfl
                   exact norm_ (by first | (simp only [putAll, Act.put, List.setIfInBounds_toArray, List.set_cons_zero, List.set_cons_succ]; done) | (simp only [putAll, Act.put, List.setIfInBounds_toArray, List.set_cons_zero, List.set_cons_succ]; rfl)) (hJ1_6_8 (gb159) _ ⟨hHeld, BK146.out, BK152.out, BK159.out, GW159.out, GE159.out, NB146_159.out, NB159_146.out, NB152_159.out, NB159_152.out, HB.out⟩)
                  ·skip
                   refine box_step ?hg (N := 9) ?hd (cs := #[.int .i64 0, .int .i64 0]) (t := 45) ?hr ?_; (case hd => rfl); (case hg => rfl); (case hr => first | (go_simp; done) | (go_simp; rfl))
                   intro gb158 hg w47 hbox hb
                   have n0_ := Aside0.mk (blk_below (g := gb146) (o := .cells #[.int .i64 0, .int .i64 0] 45 (0, 0)) BK146.out hb)
                   have n1_ := Aside0.mk (blk_below (g := gb152) (o := .cells #[.int .i16 ((rd_T106 l0 x23_1).f0), .int .i16 ((rd_T106 l0 x23_1).f1), .int .i16 ((rd_T106 l0 x23_1).f2)] 106 (0, 0)) BK152.out hb)
                   have n2_ := Aside0.mk (blk_below (g := gb159) (o := .cells #[.int .i64 0, .int .i64 0] 45 (0, 0)) BK159.out hb)
                   have n3_ := Aside0.mk (below_step HB.out hb)
                   have n4_ := Aside0.mk (hbox)
                   have n5_ := Aside0.mk ((by rw [hg]; exact (below_size HB.out) : w.heap.size ≤ gb158))
                   have n6_ := n5_
                   have n7_ := Aside0.mk ((by rw [hg]; exact Nat.ne_of_lt (blk_lt (g := gb146) (o := .cells #[.int .i64 0, .int .i64 0] 45 (0, 0)) BK146.out) : gb146 ≠ gb158))
                   have n8_ := Aside0.mk (Ne.symm n7_.out)
                   have n9_ := Aside0.mk ((by rw [hg]; exact Nat.ne_of_lt (blk_lt (g := gb152) (o := .cells #[.int .i16 ((rd_T106 l0 x23_1).f0), .int .i16 ((rd_T106 l0 x23_1).f1), .int .i16 ((rd_T106 l0 x23_1).f2)] 106 (0, 0)) BK152.out) : gb152 ≠ gb158))
                   have n10_ := Aside0.mk (Ne.symm n9_.out)
                   have n11_ := Aside0.mk ((by rw [hg]; exact Nat.ne_of_lt (blk_lt (g := gb159) (o := .cells #[.int .i64 0, .int .i64 0] 45 (0, 0)) BK159.out) : gb159 ≠ gb158))
                   have n12_ := Aside0.mk (Ne.symm n11_.out)
                   clear BK146
                   clear BK152
                   clear BK159
                   clear HB
                   have BK146 := n0_
                   have BK152 := n1_
                   have BK159 := n2_
                   have HB := n3_
                   have BK158 := n4_
                   have GW158 := n5_
                   have GE158 := n6_
                   have NB146_158 := n7_
                   have NB158_146 := n8_
                   have NB152_158 := n9_
                   have NB158_152 := n10_
                   have NB159_158 := n11_
                   have NB158_159 := n12_
                   clear n0_ n1_ n2_ n3_ n4_ n5_ n6_ n7_ n8_ n9_ n10_ n11_ n12_
                   clear hb hbox hg
                   refine hK.out _ _ ⟨(blk_cell BK152.out 0).trans rfl, (blk_cell BK152.out 1).trans rfl, (blk_cell BK152.out 2).trans rfl, ((HB.out.cell (World.block_lt_of_cell? w _ hw155_0)).trans hw155_0), ((HB.out.cell (World.block_lt_of_cell? w _ hw155_1)).trans hw155_1), ((HB.out.cell (World.block_lt_of_cell? w _ hw155_2)).trans hw155_2)⟩ (fun hHeld => ?_)
                   clear hK K
                   refine norm_ (a' := ?_) ?_ ?_
                   rotate_left
                   ·show Act.put _ (some 9) _ = _
                    simp only [Act.put, List.setIfInBounds_toArray, List.set_cons_zero, List.set_cons_succ, i64_w, i32_w]
                    rfl
                   exact norm_ (by first | (simp only [putAll, Act.put, List.setIfInBounds_toArray, List.set_cons_zero, List.set_cons_succ]; done) | (simp only [putAll, Act.put, List.setIfInBounds_toArray, List.set_cons_zero, List.set_cons_succ]; rfl)) (hJ1_7_8 (gb158, gb159) _ ⟨hHeld, BK146.out, BK152.out, BK158.out, BK159.out, GW158.out, GE158.out, NB146_158.out, NB158_146.out, NB152_158.out, NB158_152.out, NB159_158.out, NB158_159.out, GW159.out, GE159.out, NB146_159.out, NB159_146.out, NB152_159.out, NB159_152.out, HB.out⟩)
                ·skip
                 rintro gb158 w46 ⟨hS_, h0_, h1_, h2_, h3_, h4_, h5_, h6_, h7_, h8_, h9_⟩
                 have n0_ : Aside0 (w46.heap[gb146]? = some (.cells #[.int .i64 0, .int .i64 0] 45 (0, 0))) := ⟨h0_⟩
                 have n1_ : Aside0 (w46.heap[gb152]? = some (.cells #[.int .i16 ((rd_T106 l0 x23_1).f0), .int .i16 ((rd_T106 l0 x23_1).f1), .int .i16 ((rd_T106 l0 x23_1).f2)] 106 (0, 0))) := ⟨h1_⟩
                 have n2_ : Aside0 (w46.heap[gb158]? = some (.cells #[.int .i64 0, .int .i64 0] 45 (0, 0))) := ⟨h2_⟩
                 have n3_ : Aside0 (w.heap.size ≤ gb158) := ⟨h3_⟩
                 have n4_ : Aside0 (w.heap.size ≤ gb158) := ⟨h4_⟩
                 have n5_ : Aside0 (gb146 ≠ gb158) := ⟨h5_⟩
                 have n6_ : Aside0 (gb158 ≠ gb146) := ⟨h6_⟩
                 have n7_ : Aside0 (gb152 ≠ gb158) := ⟨h7_⟩
                 have n8_ : Aside0 (gb158 ≠ gb152) := ⟨h8_⟩
                 have n9_ : Aside0 (Below w.heap.size w w46) := ⟨h9_⟩
                 clear BK146
                 clear BK152
                 clear HB
                 clear h0_ h1_ h2_ h3_ h4_ h5_ h6_ h7_ h8_ h9_
                 have BK146 := n0_
                 have BK152 := n1_
                 have BK158 := n2_
                 have GW158 := n3_
                 have GE158 := n4_
                 have NB146_158 := n5_
                 have NB158_146 := n6_
                 have NB152_158 := n7_
                 have NB158_152 := n8_
                 have HB := n9_
                 clear n0_ n1_ n2_ n3_ n4_ n5_ n6_ n7_ n8_ n9_
                 have hHeld : w46.cell? ⟨gb152, 0, none⟩ = some (.int .i16 ((rd_T106 l0 x23_1).f0)) ∧ w46.cell? ⟨gb152, 1, none⟩ = some (.int .i16 ((rd_T106 l0 x23_1).f1)) ∧ w46.cell? ⟨gb152, 2, none⟩ = some (.int .i16 ((rd_T106 l0 x23_1).f2)) ∧ w46.cell? (ad151.add ((x6_1).toNat * 3)) = some (.int .i16 ((rd_T106 l0 x6_1).f0)) ∧ w46.cell? ⟨(ad151.add ((x6_1).toNat * 3)).block, (ad151.add ((x6_1).toNat * 3)).off + 1, none⟩ = some (.int .i16 ((rd_T106 l0 x6_1).f1)) ∧ w46.cell? ⟨(ad151.add ((x6_1).toNat * 3)).block, (ad151.add ((x6_1).toNat * 3)).off + 2, none⟩ = some (.int .i16 ((rd_T106 l0 x6_1).f2)) := hS_
                 refine norm_ (a' := ?_) ?_ ?_
                 rotate_left
                 ·simp only [putAll, Act.put, List.setIfInBounds_toArray, List.set_cons_zero, List.set_cons_succ]
                  rfl
                 refine two_ (i := 6) (j := 8) (Ni := some 34) (Nj := some 10) #[true, true, true, true, true, true, true, true, false, false, false] #[true, true, true, true, true, true, false, true, true, false, false] rfl rfl rfl rfl (two_of HT_.out (by kernel_rfl)) (by decide) (by decide) (fun K hK => ?_) (fun K hK => ?_)
                 ·skip
                  refine goes_ Try.func82 (by kernel_rfl) rfl #[.agg #[.int .i16 ((rd_T106 l0 x6_1).f0), .int .i16 ((rd_T106 l0 x6_1).f1), .int .i16 ((rd_T106 l0 x6_1).f2)]] (by rfl) rfl rfl (by (try simp only [List.map_toArray, List.map_cons, List.map_nil]); first | done | rfl | (simp only [List.length_drop, List.length_take]; rfl)) ?_
                  with_reducible refine (impl_Yarn_count.calls k1 ((rd_T106 l0 x6_1).f0) ((rd_T106 l0 x6_1).f1) ((rd_T106 l0 x6_1).f2) t156 t157 _ A16.out).mono ?_
                  rintro e w47 ⟨rfl, hb⟩
                  refine ⟨_, rfl, ?_⟩
                  have n0_ := Aside0.mk (blk_below (g := gb146) (o := .cells #[.int .i64 0, .int .i64 0] 45 (0, 0)) BK146.out hb)
                  have n1_ := Aside0.mk (blk_below (g := gb152) (o := .cells #[.int .i16 ((rd_T106 l0 x23_1).f0), .int .i16 ((rd_T106 l0 x23_1).f1), .int .i16 ((rd_T106 l0 x23_1).f2)] 106 (0, 0)) BK152.out hb)
                  have n2_ := Aside0.mk (blk_below (g := gb158) (o := .cells #[.int .i64 0, .int .i64 0] 45 (0, 0)) BK158.out hb)
                  have n3_ := Aside0.mk (below_step HB.out hb)
                  clear BK146
                  clear BK152
                  clear BK158
                  clear HB
                  have BK146 := n0_
                  have BK152 := n1_
                  have BK158 := n2_
                  have HB := n3_
                  clear n0_ n1_ n2_ n3_
                  (try clear hb)
                  (try clear hb2)
                  (try clear hk)
                  (try clear hi)
                  refine hK.out _ _ ⟨(blk_cell BK152.out 0).trans rfl, (blk_cell BK152.out 1).trans rfl, (blk_cell BK152.out 2).trans rfl, ((HB.out.cell (World.block_lt_of_cell? w _ hw155_0)).trans hw155_0), ((HB.out.cell (World.block_lt_of_cell? w _ hw155_1)).trans hw155_1), ((HB.out.cell (World.block_lt_of_cell? w _ hw155_2)).trans hw155_2)⟩ (fun hHeld => ?_)
                  clear hK K
                  refine norm_ (a' := ?_) ?_ ?_
                  rotate_left
                  ·show Act.put _ (some 34) _ = _
                   simp only [Act.put, List.setIfInBounds_toArray, List.set_cons_zero, List.set_cons_succ, i64_w, i32_w]
                   rfl
                  exact norm_ (by first | (simp only [putAll, Act.put, List.setIfInBounds_toArray, List.set_cons_zero, List.set_cons_succ]; done) | (simp only [putAll, Act.put, List.setIfInBounds_toArray, List.set_cons_zero, List.set_cons_succ]; rfl)) (hJ1_6_7 (gb158) _ ⟨hHeld, BK146.out, BK152.out, BK158.out, GW158.out, GE158.out, NB146_158.out, NB158_146.out, NB152_158.out, NB158_152.out, HB.out⟩)
                 ·skip
                  refine box_step ?hg (N := 10) ?hd (cs := #[.int .i64 0, .int .i64 0]) (t := 45) ?hr ?_; (case hd => rfl); (case hg => rfl); (case hr => first | (go_simp; done) | (go_simp; rfl))
                  intro gb159 hg w47 hbox hb
                  have n0_ := Aside0.mk (blk_below (g := gb146) (o := .cells #[.int .i64 0, .int .i64 0] 45 (0, 0)) BK146.out hb)
                  have n1_ := Aside0.mk (blk_below (g := gb152) (o := .cells #[.int .i16 ((rd_T106 l0 x23_1).f0), .int .i16 ((rd_T106 l0 x23_1).f1), .int .i16 ((rd_T106 l0 x23_1).f2)] 106 (0, 0)) BK152.out hb)
                  have n2_ := Aside0.mk (blk_below (g := gb158) (o := .cells #[.int .i64 0, .int .i64 0] 45 (0, 0)) BK158.out hb)
                  have n3_ := Aside0.mk (below_step HB.out hb)
                  have n4_ := Aside0.mk (hbox)
                  have n5_ := Aside0.mk ((by rw [hg]; exact (below_size HB.out) : w.heap.size ≤ gb159))
                  have n6_ := n5_
                  have n7_ := Aside0.mk ((by rw [hg]; exact Nat.ne_of_lt (blk_lt (g := gb146) (o := .cells #[.int .i64 0, .int .i64 0] 45 (0, 0)) BK146.out) : gb146 ≠ gb159))
                  have n8_ := Aside0.mk (Ne.symm n7_.out)
                  have n9_ := Aside0.mk ((by rw [hg]; exact Nat.ne_of_lt (blk_lt (g := gb152) (o := .cells #[.int .i16 ((rd_T106 l0 x23_1).f0), .int .i16 ((rd_T106 l0 x23_1).f1), .int .i16 ((rd_T106 l0 x23_1).f2)] 106 (0, 0)) BK152.out) : gb152 ≠ gb159))
                  have n10_ := Aside0.mk (Ne.symm n9_.out)
                  have n11_ := Aside0.mk ((by rw [hg]; exact Nat.ne_of_lt (blk_lt (g := gb158) (o := .cells #[.int .i64 0, .int .i64 0] 45 (0, 0)) BK158.out) : gb158 ≠ gb159))
                  have n12_ := Aside0.mk (Ne.symm n11_.out)
                  clear BK146
                  clear BK152
                  clear BK158
                  clear HB
                  have BK146 := n0_
                  have BK152 := n1_
                  have BK158 := n2_
                  have HB := n3_
                  have BK159 := n4_
                  have GW159 := n5_
                  have GE159 := n6_
                  have NB146_159 := n7_
                  have NB159_146 := n8_
                  have NB152_159 := n9_
                  have NB159_152 := n10_
                  have NB158_159 := n11_
                  have NB159_158 := n12_
                  clear n0_ n1_ n2_ n3_ n4_ n5_ n6_ n7_ n8_ n9_ n10_ n11_ n12_
                  clear hb hbox hg
                  refine hK.out _ _ ⟨(blk_cell BK152.out 0).trans rfl, (blk_cell BK152.out 1).trans rfl, (blk_cell BK152.out 2).trans rfl, ((HB.out.cell (World.block_lt_of_cell? w _ hw155_0)).trans hw155_0), ((HB.out.cell (World.block_lt_of_cell? w _ hw155_1)).trans hw155_1), ((HB.out.cell (World.block_lt_of_cell? w _ hw155_2)).trans hw155_2)⟩ (fun hHeld => ?_)
                  clear hK K
                  refine norm_ (a' := ?_) ?_ ?_
                  rotate_left
                  ·show Act.put _ (some 10) _ = _
                   simp only [Act.put, List.setIfInBounds_toArray, List.set_cons_zero, List.set_cons_succ, i64_w, i32_w]
                   rfl
                  exact norm_ (by first | (simp only [putAll, Act.put, List.setIfInBounds_toArray, List.set_cons_zero, List.set_cons_succ]; done) | (simp only [putAll, Act.put, List.setIfInBounds_toArray, List.set_cons_zero, List.set_cons_succ]; rfl)) (hJ1_7_8 (gb158, gb159) _ ⟨hHeld, BK146.out, BK152.out, BK158.out, BK159.out, GW158.out, GE158.out, NB146_158.out, NB158_146.out, NB152_158.out, NB158_152.out, NB159_158.out, NB158_159.out, GW159.out, GE159.out, NB146_159.out, NB159_146.out, NB152_159.out, NB159_152.out, HB.out⟩)
               ·skip
                rintro _ w46 ⟨hS_, h0_, h1_, h2_⟩
                have n0_ : Aside0 (w46.heap[gb146]? = some (.cells #[.int .i64 0, .int .i64 0] 45 (0, 0))) := ⟨h0_⟩
                have n1_ : Aside0 (w46.heap[gb152]? = some (.cells #[.int .i16 ((rd_T106 l0 x23_1).f0), .int .i16 ((rd_T106 l0 x23_1).f1), .int .i16 ((rd_T106 l0 x23_1).f2)] 106 (0, 0))) := ⟨h1_⟩
                have n2_ : Aside0 (Below w.heap.size w w46) := ⟨h2_⟩
                clear BK146
                clear BK152
                clear HB
                clear h0_ h1_ h2_
                have BK146 := n0_
                have BK152 := n1_
                have HB := n2_
                clear n0_ n1_ n2_
                have hHeld : w46.cell? ⟨gb152, 0, none⟩ = some (.int .i16 ((rd_T106 l0 x23_1).f0)) ∧ w46.cell? ⟨gb152, 1, none⟩ = some (.int .i16 ((rd_T106 l0 x23_1).f1)) ∧ w46.cell? ⟨gb152, 2, none⟩ = some (.int .i16 ((rd_T106 l0 x23_1).f2)) ∧ w46.cell? (ad151.add ((x6_1).toNat * 3)) = some (.int .i16 ((rd_T106 l0 x6_1).f0)) ∧ w46.cell? ⟨(ad151.add ((x6_1).toNat * 3)).block, (ad151.add ((x6_1).toNat * 3)).off + 1, none⟩ = some (.int .i16 ((rd_T106 l0 x6_1).f1)) ∧ w46.cell? ⟨(ad151.add ((x6_1).toNat * 3)).block, (ad151.add ((x6_1).toNat * 3)).off + 2, none⟩ = some (.int .i16 ((rd_T106 l0 x6_1).f2)) := hS_
                refine norm_ (a' := ?_) ?_ ?_
                rotate_left
                ·simp only [putAll, Act.put, List.setIfInBounds_toArray, List.set_cons_zero, List.set_cons_succ]
                 rfl
                refine two_ (i := 7) (j := 8) (Ni := some 9) (Nj := some 10) #[true, true, true, true, true, true, true, true, false, false, false] #[true, true, true, true, true, true, true, false, true, false, false] rfl rfl rfl rfl (two_of HT_.out (by kernel_rfl)) (by decide) (by decide) (fun K hK => ?_) (fun K hK => ?_)
                ·skip
                 refine box_step ?hg (N := 9) ?hd (cs := #[.int .i64 0, .int .i64 0]) (t := 45) ?hr ?_; (case hd => rfl); (case hg => rfl); (case hr => first | (go_simp; done) | (go_simp; rfl))
                 intro gb158 hg w47 hbox hb
                 have n0_ := Aside0.mk (blk_below (g := gb146) (o := .cells #[.int .i64 0, .int .i64 0] 45 (0, 0)) BK146.out hb)
                 have n1_ := Aside0.mk (blk_below (g := gb152) (o := .cells #[.int .i16 ((rd_T106 l0 x23_1).f0), .int .i16 ((rd_T106 l0 x23_1).f1), .int .i16 ((rd_T106 l0 x23_1).f2)] 106 (0, 0)) BK152.out hb)
                 have n2_ := Aside0.mk (below_step HB.out hb)
                 have n3_ := Aside0.mk (hbox)
                 have n4_ := Aside0.mk ((by rw [hg]; exact (below_size HB.out) : w.heap.size ≤ gb158))
                 have n5_ := n4_
                 have n6_ := Aside0.mk ((by rw [hg]; exact Nat.ne_of_lt (blk_lt (g := gb146) (o := .cells #[.int .i64 0, .int .i64 0] 45 (0, 0)) BK146.out) : gb146 ≠ gb158))
                 have n7_ := Aside0.mk (Ne.symm n6_.out)
                 have n8_ := Aside0.mk ((by rw [hg]; exact Nat.ne_of_lt (blk_lt (g := gb152) (o := .cells #[.int .i16 ((rd_T106 l0 x23_1).f0), .int .i16 ((rd_T106 l0 x23_1).f1), .int .i16 ((rd_T106 l0 x23_1).f2)] 106 (0, 0)) BK152.out) : gb152 ≠ gb158))
                 have n9_ := Aside0.mk (Ne.symm n8_.out)
                 clear BK146
                 clear BK152
                 clear HB
                 have BK146 := n0_
                 have BK152 := n1_
                 have HB := n2_
                 have BK158 := n3_
                 have GW158 := n4_
                 have GE158 := n5_
                 have NB146_158 := n6_
                 have NB158_146 := n7_
                 have NB152_158 := n8_
                 have NB158_152 := n9_
                 clear n0_ n1_ n2_ n3_ n4_ n5_ n6_ n7_ n8_ n9_
                 clear hb hbox hg
                 refine hK.out _ _ ⟨(blk_cell BK152.out 0).trans rfl, (blk_cell BK152.out 1).trans rfl, (blk_cell BK152.out 2).trans rfl, ((HB.out.cell (World.block_lt_of_cell? w _ hw155_0)).trans hw155_0), ((HB.out.cell (World.block_lt_of_cell? w _ hw155_1)).trans hw155_1), ((HB.out.cell (World.block_lt_of_cell? w _ hw155_2)).trans hw155_2)⟩ (fun hHeld => ?_)
                 clear hK K
                 refine norm_ (a' := ?_) ?_ ?_
                 rotate_left
                 ·show Act.put _ (some 9) _ = _
                  simp only [Act.put, List.setIfInBounds_toArray, List.set_cons_zero, List.set_cons_succ, i64_w, i32_w]
                  rfl
                 exact norm_ (by first | (simp only [putAll, Act.put, List.setIfInBounds_toArray, List.set_cons_zero, List.set_cons_succ]; done) | (simp only [putAll, Act.put, List.setIfInBounds_toArray, List.set_cons_zero, List.set_cons_succ]; rfl)) (hJ1_6_7 (gb158) _ ⟨hHeld, BK146.out, BK152.out, BK158.out, GW158.out, GE158.out, NB146_158.out, NB158_146.out, NB152_158.out, NB158_152.out, HB.out⟩)
                ·skip
                 refine box_step ?hg (N := 10) ?hd (cs := #[.int .i64 0, .int .i64 0]) (t := 45) ?hr ?_; (case hd => rfl); (case hg => rfl); (case hr => first | (go_simp; done) | (go_simp; rfl))
                 intro gb159 hg w47 hbox hb
                 have n0_ := Aside0.mk (blk_below (g := gb146) (o := .cells #[.int .i64 0, .int .i64 0] 45 (0, 0)) BK146.out hb)
                 have n1_ := Aside0.mk (blk_below (g := gb152) (o := .cells #[.int .i16 ((rd_T106 l0 x23_1).f0), .int .i16 ((rd_T106 l0 x23_1).f1), .int .i16 ((rd_T106 l0 x23_1).f2)] 106 (0, 0)) BK152.out hb)
                 have n2_ := Aside0.mk (below_step HB.out hb)
                 have n3_ := Aside0.mk (hbox)
                 have n4_ := Aside0.mk ((by rw [hg]; exact (below_size HB.out) : w.heap.size ≤ gb159))
                 have n5_ := n4_
                 have n6_ := Aside0.mk ((by rw [hg]; exact Nat.ne_of_lt (blk_lt (g := gb146) (o := .cells #[.int .i64 0, .int .i64 0] 45 (0, 0)) BK146.out) : gb146 ≠ gb159))
                 have n7_ := Aside0.mk (Ne.symm n6_.out)
                 have n8_ := Aside0.mk ((by rw [hg]; exact Nat.ne_of_lt (blk_lt (g := gb152) (o := .cells #[.int .i16 ((rd_T106 l0 x23_1).f0), .int .i16 ((rd_T106 l0 x23_1).f1), .int .i16 ((rd_T106 l0 x23_1).f2)] 106 (0, 0)) BK152.out) : gb152 ≠ gb159))
                 have n9_ := Aside0.mk (Ne.symm n8_.out)
                 clear BK146
                 clear BK152
                 clear HB
                 have BK146 := n0_
                 have BK152 := n1_
                 have HB := n2_
                 have BK159 := n3_
                 have GW159 := n4_
                 have GE159 := n5_
                 have NB146_159 := n6_
                 have NB159_146 := n7_
                 have NB152_159 := n8_
                 have NB159_152 := n9_
                 clear n0_ n1_ n2_ n3_ n4_ n5_ n6_ n7_ n8_ n9_
                 clear hb hbox hg
                 refine hK.out _ _ ⟨(blk_cell BK152.out 0).trans rfl, (blk_cell BK152.out 1).trans rfl, (blk_cell BK152.out 2).trans rfl, ((HB.out.cell (World.block_lt_of_cell? w _ hw155_0)).trans hw155_0), ((HB.out.cell (World.block_lt_of_cell? w _ hw155_1)).trans hw155_1), ((HB.out.cell (World.block_lt_of_cell? w _ hw155_2)).trans hw155_2)⟩ (fun hHeld => ?_)
                 clear hK K
                 refine norm_ (a' := ?_) ?_ ?_
                 rotate_left
                 ·show Act.put _ (some 10) _ = _
                  simp only [Act.put, List.setIfInBounds_toArray, List.set_cons_zero, List.set_cons_succ, i64_w, i32_w]
                  rfl
                 exact norm_ (by first | (simp only [putAll, Act.put, List.setIfInBounds_toArray, List.set_cons_zero, List.set_cons_succ]; done) | (simp only [putAll, Act.put, List.setIfInBounds_toArray, List.set_cons_zero, List.set_cons_succ]; rfl)) (hJ1_6_8 (gb159) _ ⟨hHeld, BK146.out, BK152.out, BK159.out, GW159.out, GE159.out, NB146_159.out, NB159_146.out, NB152_159.out, NB159_152.out, HB.out⟩)
              ·skip
               rintro ⟨gb158, gb159⟩ w47 ⟨hS_, h0_, h1_, h2_, h3_, h4_, h5_, h6_, h7_, h8_, h9_, h10_, h11_, h12_, h13_, h14_, h15_, h16_, h17_, h18_⟩
               have n0_ : Aside0 (w47.heap[gb146]? = some (.cells #[.int .i64 0, .int .i64 0] 45 (0, 0))) := ⟨h0_⟩
               have n1_ : Aside0 (w47.heap[gb152]? = some (.cells #[.int .i16 ((rd_T106 l0 x23_1).f0), .int .i16 ((rd_T106 l0 x23_1).f1), .int .i16 ((rd_T106 l0 x23_1).f2)] 106 (0, 0))) := ⟨h1_⟩
               have n2_ : Aside0 (w47.heap[gb158]? = some (.cells #[.int .i64 0, .int .i64 0] 45 (0, 0))) := ⟨h2_⟩
               have n3_ : Aside0 (w47.heap[gb159]? = some (.cells #[.int .i64 0, .int .i64 0] 45 (0, 0))) := ⟨h3_⟩
               have n4_ : Aside0 (w.heap.size ≤ gb158) := ⟨h4_⟩
               have n5_ : Aside0 (w.heap.size ≤ gb158) := ⟨h5_⟩
               have n6_ : Aside0 (gb146 ≠ gb158) := ⟨h6_⟩
               have n7_ : Aside0 (gb158 ≠ gb146) := ⟨h7_⟩
               have n8_ : Aside0 (gb152 ≠ gb158) := ⟨h8_⟩
               have n9_ : Aside0 (gb158 ≠ gb152) := ⟨h9_⟩
               have n10_ : Aside0 (gb159 ≠ gb158) := ⟨h10_⟩
               have n11_ : Aside0 (gb158 ≠ gb159) := ⟨h11_⟩
               have n12_ : Aside0 (w.heap.size ≤ gb159) := ⟨h12_⟩
               have n13_ : Aside0 (w.heap.size ≤ gb159) := ⟨h13_⟩
               have n14_ : Aside0 (gb146 ≠ gb159) := ⟨h14_⟩
               have n15_ : Aside0 (gb159 ≠ gb146) := ⟨h15_⟩
               have n16_ : Aside0 (gb152 ≠ gb159) := ⟨h16_⟩
               have n17_ : Aside0 (gb159 ≠ gb152) := ⟨h17_⟩
               have n18_ : Aside0 (Below w.heap.size w w47) := ⟨h18_⟩
               clear BK146
               clear BK152
               clear HB
               clear h0_ h1_ h2_ h3_ h4_ h5_ h6_ h7_ h8_ h9_ h10_ h11_ h12_ h13_ h14_ h15_ h16_ h17_ h18_
               have BK146 := n0_
               have BK152 := n1_
               have BK158 := n2_
               have BK159 := n3_
               have GW158 := n4_
               have GE158 := n5_
               have NB146_158 := n6_
               have NB158_146 := n7_
               have NB152_158 := n8_
               have NB158_152 := n9_
               have NB159_158 := n10_
               have NB158_159 := n11_
               have GW159 := n12_
               have GE159 := n13_
               have NB146_159 := n14_
               have NB159_146 := n15_
               have NB152_159 := n16_
               have NB159_152 := n17_
               have HB := n18_
               clear n0_ n1_ n2_ n3_ n4_ n5_ n6_ n7_ n8_ n9_ n10_ n11_ n12_ n13_ n14_ n15_ n16_ n17_ n18_
               have hHeld : w47.cell? ⟨gb152, 0, none⟩ = some (.int .i16 ((rd_T106 l0 x23_1).f0)) ∧ w47.cell? ⟨gb152, 1, none⟩ = some (.int .i16 ((rd_T106 l0 x23_1).f1)) ∧ w47.cell? ⟨gb152, 2, none⟩ = some (.int .i16 ((rd_T106 l0 x23_1).f2)) ∧ w47.cell? (ad151.add ((x6_1).toNat * 3)) = some (.int .i16 ((rd_T106 l0 x6_1).f0)) ∧ w47.cell? ⟨(ad151.add ((x6_1).toNat * 3)).block, (ad151.add ((x6_1).toNat * 3)).off + 1, none⟩ = some (.int .i16 ((rd_T106 l0 x6_1).f1)) ∧ w47.cell? ⟨(ad151.add ((x6_1).toNat * 3)).block, (ad151.add ((x6_1).toNat * 3)).off + 2, none⟩ = some (.int .i16 ((rd_T106 l0 x6_1).f2)) := hS_
               refine norm_ (a' := ?_) ?_ ?_
               rotate_left
               ·simp only [putAll, Act.put, List.setIfInBounds_toArray, List.set_cons_zero, List.set_cons_succ]
                rfl
               refine one_ (i := 6) (N := some 34) #[true, true, true, true, true, true, true, true, true, false, false] rfl rfl (one_of HT_.out (by kernel_rfl)) (by decide) (fun K hK => ?_)
               refine goes_ Try.func82 (by kernel_rfl) rfl #[.agg #[.int .i16 ((rd_T106 l0 x6_1).f0), .int .i16 ((rd_T106 l0 x6_1).f1), .int .i16 ((rd_T106 l0 x6_1).f2)]] (by rfl) rfl rfl (by (try simp only [List.map_toArray, List.map_cons, List.map_nil]); first | done | rfl | (simp only [List.length_drop, List.length_take]; rfl)) ?_
               with_reducible refine (impl_Yarn_count.calls k1 ((rd_T106 l0 x6_1).f0) ((rd_T106 l0 x6_1).f1) ((rd_T106 l0 x6_1).f2) t156 t157 _ A16.out).mono ?_
               rintro e w48 ⟨rfl, hb⟩
               refine ⟨_, rfl, ?_⟩
               have n0_ := Aside0.mk (blk_below (g := gb146) (o := .cells #[.int .i64 0, .int .i64 0] 45 (0, 0)) BK146.out hb)
               have n1_ := Aside0.mk (blk_below (g := gb152) (o := .cells #[.int .i16 ((rd_T106 l0 x23_1).f0), .int .i16 ((rd_T106 l0 x23_1).f1), .int .i16 ((rd_T106 l0 x23_1).f2)] 106 (0, 0)) BK152.out hb)
               have n2_ := Aside0.mk (blk_below (g := gb158) (o := .cells #[.int .i64 0, .int .i64 0] 45 (0, 0)) BK158.out hb)
               have n3_ := Aside0.mk (blk_below (g := gb159) (o := .cells #[.int .i64 0, .int .i64 0] 45 (0, 0)) BK159.out hb)
               have n4_ := Aside0.mk (below_step HB.out hb)
               clear BK146
               clear BK152
               clear BK158
               clear BK159
               clear HB
               have BK146 := n0_
               have BK152 := n1_
               have BK158 := n2_
               have BK159 := n3_
               have HB := n4_
               clear n0_ n1_ n2_ n3_ n4_
               (try clear hb)
               (try clear hb2)
               (try clear hk)
               (try clear hi)
               refine hK.out _ _ ⟨(blk_cell BK152.out 0).trans rfl, (blk_cell BK152.out 1).trans rfl, (blk_cell BK152.out 2).trans rfl, ((HB.out.cell (World.block_lt_of_cell? w _ hw155_0)).trans hw155_0), ((HB.out.cell (World.block_lt_of_cell? w _ hw155_1)).trans hw155_1), ((HB.out.cell (World.block_lt_of_cell? w _ hw155_2)).trans hw155_2)⟩ (fun hHeld => ?_)
               clear hK K
               refine norm_ (a' := ?_) ?_ ?_
               rotate_left
               ·show Act.put _ (some 34) _ = _
                simp only [Act.put, List.setIfInBounds_toArray, List.set_cons_zero, List.set_cons_succ, i64_w, i32_w]
                rfl
               exact norm_ (by first | (simp only [putAll, Act.put, List.setIfInBounds_toArray, List.set_cons_zero, List.set_cons_succ]; done) | (simp only [putAll, Act.put, List.setIfInBounds_toArray, List.set_cons_zero, List.set_cons_succ]; rfl)) (hJ1_6_7_8 (gb158, gb159) _ ⟨hHeld, BK146.out, BK152.out, BK158.out, BK159.out, GW158.out, GE158.out, NB146_158.out, NB158_146.out, NB152_158.out, NB158_152.out, NB159_158.out, NB158_159.out, GW159.out, GE159.out, NB146_159.out, NB159_146.out, NB152_159.out, NB159_152.out, HB.out⟩)
             ·skip
              rintro gb159 w47 ⟨hS_, h0_, h1_, h2_, h3_, h4_, h5_, h6_, h7_, h8_, h9_⟩
              have n0_ : Aside0 (w47.heap[gb146]? = some (.cells #[.int .i64 0, .int .i64 0] 45 (0, 0))) := ⟨h0_⟩
              have n1_ : Aside0 (w47.heap[gb152]? = some (.cells #[.int .i16 ((rd_T106 l0 x23_1).f0), .int .i16 ((rd_T106 l0 x23_1).f1), .int .i16 ((rd_T106 l0 x23_1).f2)] 106 (0, 0))) := ⟨h1_⟩
              have n2_ : Aside0 (w47.heap[gb159]? = some (.cells #[.int .i64 0, .int .i64 0] 45 (0, 0))) := ⟨h2_⟩
              have n3_ : Aside0 (w.heap.size ≤ gb159) := ⟨h3_⟩
              have n4_ : Aside0 (w.heap.size ≤ gb159) := ⟨h4_⟩
              have n5_ : Aside0 (gb146 ≠ gb159) := ⟨h5_⟩
              have n6_ : Aside0 (gb159 ≠ gb146) := ⟨h6_⟩
              have n7_ : Aside0 (gb152 ≠ gb159) := ⟨h7_⟩
              have n8_ : Aside0 (gb159 ≠ gb152) := ⟨h8_⟩
              have n9_ : Aside0 (Below w.heap.size w w47) := ⟨h9_⟩
              clear BK146
              clear BK152
              clear HB
              clear h0_ h1_ h2_ h3_ h4_ h5_ h6_ h7_ h8_ h9_
              have BK146 := n0_
              have BK152 := n1_
              have BK159 := n2_
              have GW159 := n3_
              have GE159 := n4_
              have NB146_159 := n5_
              have NB159_146 := n6_
              have NB152_159 := n7_
              have NB159_152 := n8_
              have HB := n9_
              clear n0_ n1_ n2_ n3_ n4_ n5_ n6_ n7_ n8_ n9_
              have hHeld : w47.cell? ⟨gb152, 0, none⟩ = some (.int .i16 ((rd_T106 l0 x23_1).f0)) ∧ w47.cell? ⟨gb152, 1, none⟩ = some (.int .i16 ((rd_T106 l0 x23_1).f1)) ∧ w47.cell? ⟨gb152, 2, none⟩ = some (.int .i16 ((rd_T106 l0 x23_1).f2)) ∧ w47.cell? (ad151.add ((x6_1).toNat * 3)) = some (.int .i16 ((rd_T106 l0 x6_1).f0)) ∧ w47.cell? ⟨(ad151.add ((x6_1).toNat * 3)).block, (ad151.add ((x6_1).toNat * 3)).off + 1, none⟩ = some (.int .i16 ((rd_T106 l0 x6_1).f1)) ∧ w47.cell? ⟨(ad151.add ((x6_1).toNat * 3)).block, (ad151.add ((x6_1).toNat * 3)).off + 2, none⟩ = some (.int .i16 ((rd_T106 l0 x6_1).f2)) := hS_
              refine norm_ (a' := ?_) ?_ ?_
              rotate_left
              ·simp only [putAll, Act.put, List.setIfInBounds_toArray, List.set_cons_zero, List.set_cons_succ]
               rfl
              refine one_ (i := 7) (N := some 9) #[true, true, true, true, true, true, true, true, true, false, false] rfl rfl (one_of HT_.out (by kernel_rfl)) (by decide) (fun K hK => ?_)
              refine box_step ?hg (N := 9) ?hd (cs := #[.int .i64 0, .int .i64 0]) (t := 45) ?hr ?_; (case hd => rfl); (case hg => rfl); (case hr => first | (go_simp; done) | (go_simp; rfl))
              intro gb158 hg w48 hbox hb
              have n0_ := Aside0.mk (blk_below (g := gb146) (o := .cells #[.int .i64 0, .int .i64 0] 45 (0, 0)) BK146.out hb)
              have n1_ := Aside0.mk (blk_below (g := gb152) (o := .cells #[.int .i16 ((rd_T106 l0 x23_1).f0), .int .i16 ((rd_T106 l0 x23_1).f1), .int .i16 ((rd_T106 l0 x23_1).f2)] 106 (0, 0)) BK152.out hb)
              have n2_ := Aside0.mk (blk_below (g := gb159) (o := .cells #[.int .i64 0, .int .i64 0] 45 (0, 0)) BK159.out hb)
              have n3_ := Aside0.mk (below_step HB.out hb)
              have n4_ := Aside0.mk (hbox)
              have n5_ := Aside0.mk ((by rw [hg]; exact (below_size HB.out) : w.heap.size ≤ gb158))
              have n6_ := n5_
              have n7_ := Aside0.mk ((by rw [hg]; exact Nat.ne_of_lt (blk_lt (g := gb146) (o := .cells #[.int .i64 0, .int .i64 0] 45 (0, 0)) BK146.out) : gb146 ≠ gb158))
              have n8_ := Aside0.mk (Ne.symm n7_.out)
              have n9_ := Aside0.mk ((by rw [hg]; exact Nat.ne_of_lt (blk_lt (g := gb152) (o := .cells #[.int .i16 ((rd_T106 l0 x23_1).f0), .int .i16 ((rd_T106 l0 x23_1).f1), .int .i16 ((rd_T106 l0 x23_1).f2)] 106 (0, 0)) BK152.out) : gb152 ≠ gb158))
              have n10_ := Aside0.mk (Ne.symm n9_.out)
              have n11_ := Aside0.mk ((by rw [hg]; exact Nat.ne_of_lt (blk_lt (g := gb159) (o := .cells #[.int .i64 0, .int .i64 0] 45 (0, 0)) BK159.out) : gb159 ≠ gb158))
              have n12_ := Aside0.mk (Ne.symm n11_.out)
              clear BK146
              clear BK152
              clear BK159
              clear HB
              have BK146 := n0_
              have BK152 := n1_
              have BK159 := n2_
              have HB := n3_
              have BK158 := n4_
              have GW158 := n5_
              have GE158 := n6_
              have NB146_158 := n7_
              have NB158_146 := n8_
              have NB152_158 := n9_
              have NB158_152 := n10_
              have NB159_158 := n11_
              have NB158_159 := n12_
              clear n0_ n1_ n2_ n3_ n4_ n5_ n6_ n7_ n8_ n9_ n10_ n11_ n12_
              clear hb hbox hg
              refine hK.out _ _ ⟨(blk_cell BK152.out 0).trans rfl, (blk_cell BK152.out 1).trans rfl, (blk_cell BK152.out 2).trans rfl, ((HB.out.cell (World.block_lt_of_cell? w _ hw155_0)).trans hw155_0), ((HB.out.cell (World.block_lt_of_cell? w _ hw155_1)).trans hw155_1), ((HB.out.cell (World.block_lt_of_cell? w _ hw155_2)).trans hw155_2)⟩ (fun hHeld => ?_)
              clear hK K
              refine norm_ (a' := ?_) ?_ ?_
              rotate_left
              ·show Act.put _ (some 9) _ = _
               simp only [Act.put, List.setIfInBounds_toArray, List.set_cons_zero, List.set_cons_succ, i64_w, i32_w]
               rfl
              exact norm_ (by first | (simp only [putAll, Act.put, List.setIfInBounds_toArray, List.set_cons_zero, List.set_cons_succ]; done) | (simp only [putAll, Act.put, List.setIfInBounds_toArray, List.set_cons_zero, List.set_cons_succ]; rfl)) (hJ1_6_7_8 (gb158, gb159) _ ⟨hHeld, BK146.out, BK152.out, BK158.out, BK159.out, GW158.out, GE158.out, NB146_158.out, NB158_146.out, NB152_158.out, NB158_152.out, NB159_158.out, NB158_159.out, GW159.out, GE159.out, NB146_159.out, NB159_146.out, NB152_159.out, NB159_152.out, HB.out⟩)
            ·skip
             rintro gb158 w47 ⟨hS_, h0_, h1_, h2_, h3_, h4_, h5_, h6_, h7_, h8_, h9_⟩
             have n0_ : Aside0 (w47.heap[gb146]? = some (.cells #[.int .i64 0, .int .i64 0] 45 (0, 0))) := ⟨h0_⟩
             have n1_ : Aside0 (w47.heap[gb152]? = some (.cells #[.int .i16 ((rd_T106 l0 x23_1).f0), .int .i16 ((rd_T106 l0 x23_1).f1), .int .i16 ((rd_T106 l0 x23_1).f2)] 106 (0, 0))) := ⟨h1_⟩
             have n2_ : Aside0 (w47.heap[gb158]? = some (.cells #[.int .i64 0, .int .i64 0] 45 (0, 0))) := ⟨h2_⟩
             have n3_ : Aside0 (w.heap.size ≤ gb158) := ⟨h3_⟩
             have n4_ : Aside0 (w.heap.size ≤ gb158) := ⟨h4_⟩
             have n5_ : Aside0 (gb146 ≠ gb158) := ⟨h5_⟩
             have n6_ : Aside0 (gb158 ≠ gb146) := ⟨h6_⟩
             have n7_ : Aside0 (gb152 ≠ gb158) := ⟨h7_⟩
             have n8_ : Aside0 (gb158 ≠ gb152) := ⟨h8_⟩
             have n9_ : Aside0 (Below w.heap.size w w47) := ⟨h9_⟩
             clear BK146
             clear BK152
             clear HB
             clear h0_ h1_ h2_ h3_ h4_ h5_ h6_ h7_ h8_ h9_
             have BK146 := n0_
             have BK152 := n1_
             have BK158 := n2_
             have GW158 := n3_
             have GE158 := n4_
             have NB146_158 := n5_
             have NB158_146 := n6_
             have NB152_158 := n7_
             have NB158_152 := n8_
             have HB := n9_
             clear n0_ n1_ n2_ n3_ n4_ n5_ n6_ n7_ n8_ n9_
             have hHeld : w47.cell? ⟨gb152, 0, none⟩ = some (.int .i16 ((rd_T106 l0 x23_1).f0)) ∧ w47.cell? ⟨gb152, 1, none⟩ = some (.int .i16 ((rd_T106 l0 x23_1).f1)) ∧ w47.cell? ⟨gb152, 2, none⟩ = some (.int .i16 ((rd_T106 l0 x23_1).f2)) ∧ w47.cell? (ad151.add ((x6_1).toNat * 3)) = some (.int .i16 ((rd_T106 l0 x6_1).f0)) ∧ w47.cell? ⟨(ad151.add ((x6_1).toNat * 3)).block, (ad151.add ((x6_1).toNat * 3)).off + 1, none⟩ = some (.int .i16 ((rd_T106 l0 x6_1).f1)) ∧ w47.cell? ⟨(ad151.add ((x6_1).toNat * 3)).block, (ad151.add ((x6_1).toNat * 3)).off + 2, none⟩ = some (.int .i16 ((rd_T106 l0 x6_1).f2)) := hS_
             refine norm_ (a' := ?_) ?_ ?_
             rotate_left
             ·simp only [putAll, Act.put, List.setIfInBounds_toArray, List.set_cons_zero, List.set_cons_succ]
              rfl
             refine one_ (i := 8) (N := some 10) #[true, true, true, true, true, true, true, true, true, false, false] rfl rfl (one_of HT_.out (by kernel_rfl)) (by decide) (fun K hK => ?_)
             refine box_step ?hg (N := 10) ?hd (cs := #[.int .i64 0, .int .i64 0]) (t := 45) ?hr ?_; (case hd => rfl); (case hg => rfl); (case hr => first | (go_simp; done) | (go_simp; rfl))
             intro gb159 hg w48 hbox hb
             have n0_ := Aside0.mk (blk_below (g := gb146) (o := .cells #[.int .i64 0, .int .i64 0] 45 (0, 0)) BK146.out hb)
             have n1_ := Aside0.mk (blk_below (g := gb152) (o := .cells #[.int .i16 ((rd_T106 l0 x23_1).f0), .int .i16 ((rd_T106 l0 x23_1).f1), .int .i16 ((rd_T106 l0 x23_1).f2)] 106 (0, 0)) BK152.out hb)
             have n2_ := Aside0.mk (blk_below (g := gb158) (o := .cells #[.int .i64 0, .int .i64 0] 45 (0, 0)) BK158.out hb)
             have n3_ := Aside0.mk (below_step HB.out hb)
             have n4_ := Aside0.mk (hbox)
             have n5_ := Aside0.mk ((by rw [hg]; exact (below_size HB.out) : w.heap.size ≤ gb159))
             have n6_ := n5_
             have n7_ := Aside0.mk ((by rw [hg]; exact Nat.ne_of_lt (blk_lt (g := gb146) (o := .cells #[.int .i64 0, .int .i64 0] 45 (0, 0)) BK146.out) : gb146 ≠ gb159))
             have n8_ := Aside0.mk (Ne.symm n7_.out)
             have n9_ := Aside0.mk ((by rw [hg]; exact Nat.ne_of_lt (blk_lt (g := gb152) (o := .cells #[.int .i16 ((rd_T106 l0 x23_1).f0), .int .i16 ((rd_T106 l0 x23_1).f1), .int .i16 ((rd_T106 l0 x23_1).f2)] 106 (0, 0)) BK152.out) : gb152 ≠ gb159))
             have n10_ := Aside0.mk (Ne.symm n9_.out)
             have n11_ := Aside0.mk ((by rw [hg]; exact Nat.ne_of_lt (blk_lt (g := gb158) (o := .cells #[.int .i64 0, .int .i64 0] 45 (0, 0)) BK158.out) : gb158 ≠ gb159))
             have n12_ := Aside0.mk (Ne.symm n11_.out)
             clear BK146
             clear BK152
             clear BK158
             clear HB
             have BK146 := n0_
             have BK152 := n1_
             have BK158 := n2_
             have HB := n3_
             have BK159 := n4_
             have GW159 := n5_
             have GE159 := n6_
             have NB146_159 := n7_
             have NB159_146 := n8_
             have NB152_159 := n9_
             have NB159_152 := n10_
             have NB158_159 := n11_
             have NB159_158 := n12_
             clear n0_ n1_ n2_ n3_ n4_ n5_ n6_ n7_ n8_ n9_ n10_ n11_ n12_
             clear hb hbox hg
             refine hK.out _ _ ⟨(blk_cell BK152.out 0).trans rfl, (blk_cell BK152.out 1).trans rfl, (blk_cell BK152.out 2).trans rfl, ((HB.out.cell (World.block_lt_of_cell? w _ hw155_0)).trans hw155_0), ((HB.out.cell (World.block_lt_of_cell? w _ hw155_1)).trans hw155_1), ((HB.out.cell (World.block_lt_of_cell? w _ hw155_2)).trans hw155_2)⟩ (fun hHeld => ?_)
             clear hK K
             refine norm_ (a' := ?_) ?_ ?_
             rotate_left
             ·show Act.put _ (some 10) _ = _
              simp only [Act.put, List.setIfInBounds_toArray, List.set_cons_zero, List.set_cons_succ, i64_w, i32_w]
              rfl
             exact norm_ (by first | (simp only [putAll, Act.put, List.setIfInBounds_toArray, List.set_cons_zero, List.set_cons_succ]; done) | (simp only [putAll, Act.put, List.setIfInBounds_toArray, List.set_cons_zero, List.set_cons_succ]; rfl)) (hJ1_6_7_8 (gb158, gb159) _ ⟨hHeld, BK146.out, BK152.out, BK158.out, BK159.out, GW158.out, GE158.out, NB146_158.out, NB158_146.out, NB152_158.out, NB158_152.out, NB159_158.out, NB158_159.out, GW159.out, GE159.out, NB146_159.out, NB159_146.out, NB152_159.out, NB159_152.out, HB.out⟩)
           rintro ⟨gb158, gb159⟩ w48 ⟨hS_, h0_, h1_, h2_, h3_, h4_, h5_, h6_, h7_, h8_, h9_, h10_, h11_, h12_, h13_, h14_, h15_, h16_, h17_, h18_⟩
           have n0_ : Aside0 (w48.heap[gb146]? = some (.cells #[.int .i64 0, .int .i64 0] 45 (0, 0))) := ⟨h0_⟩
           have n1_ : Aside0 (w48.heap[gb152]? = some (.cells #[.int .i16 ((rd_T106 l0 x23_1).f0), .int .i16 ((rd_T106 l0 x23_1).f1), .int .i16 ((rd_T106 l0 x23_1).f2)] 106 (0, 0))) := ⟨h1_⟩
           have n2_ : Aside0 (w48.heap[gb158]? = some (.cells #[.int .i64 0, .int .i64 0] 45 (0, 0))) := ⟨h2_⟩
           have n3_ : Aside0 (w48.heap[gb159]? = some (.cells #[.int .i64 0, .int .i64 0] 45 (0, 0))) := ⟨h3_⟩
           have n4_ : Aside0 (w.heap.size ≤ gb158) := ⟨h4_⟩
           have n5_ : Aside0 (w.heap.size ≤ gb158) := ⟨h5_⟩
           have n6_ : Aside0 (gb146 ≠ gb158) := ⟨h6_⟩
           have n7_ : Aside0 (gb158 ≠ gb146) := ⟨h7_⟩
           have n8_ : Aside0 (gb152 ≠ gb158) := ⟨h8_⟩
           have n9_ : Aside0 (gb158 ≠ gb152) := ⟨h9_⟩
           have n10_ : Aside0 (gb159 ≠ gb158) := ⟨h10_⟩
           have n11_ : Aside0 (gb158 ≠ gb159) := ⟨h11_⟩
           have n12_ : Aside0 (w.heap.size ≤ gb159) := ⟨h12_⟩
           have n13_ : Aside0 (w.heap.size ≤ gb159) := ⟨h13_⟩
           have n14_ : Aside0 (gb146 ≠ gb159) := ⟨h14_⟩
           have n15_ : Aside0 (gb159 ≠ gb146) := ⟨h15_⟩
           have n16_ : Aside0 (gb152 ≠ gb159) := ⟨h16_⟩
           have n17_ : Aside0 (gb159 ≠ gb152) := ⟨h17_⟩
           have n18_ : Aside0 (Below w.heap.size w w48) := ⟨h18_⟩
           clear BK146
           clear BK152
           clear HB
           clear h0_ h1_ h2_ h3_ h4_ h5_ h6_ h7_ h8_ h9_ h10_ h11_ h12_ h13_ h14_ h15_ h16_ h17_ h18_
           have BK146 := n0_
           have BK152 := n1_
           have BK158 := n2_
           have BK159 := n3_
           have GW158 := n4_
           have GE158 := n5_
           have NB146_158 := n6_
           have NB158_146 := n7_
           have NB152_158 := n8_
           have NB158_152 := n9_
           have NB159_158 := n10_
           have NB158_159 := n11_
           have GW159 := n12_
           have GE159 := n13_
           have NB146_159 := n14_
           have NB159_146 := n15_
           have NB152_159 := n16_
           have NB159_152 := n17_
           have HB := n18_
           clear n0_ n1_ n2_ n3_ n4_ n5_ n6_ n7_ n8_ n9_ n10_ n11_ n12_ n13_ n14_ n15_ n16_ n17_ n18_
           have hHeld : w48.cell? ⟨gb152, 0, none⟩ = some (.int .i16 ((rd_T106 l0 x23_1).f0)) ∧ w48.cell? ⟨gb152, 1, none⟩ = some (.int .i16 ((rd_T106 l0 x23_1).f1)) ∧ w48.cell? ⟨gb152, 2, none⟩ = some (.int .i16 ((rd_T106 l0 x23_1).f2)) ∧ w48.cell? (ad151.add ((x6_1).toNat * 3)) = some (.int .i16 ((rd_T106 l0 x6_1).f0)) ∧ w48.cell? ⟨(ad151.add ((x6_1).toNat * 3)).block, (ad151.add ((x6_1).toNat * 3)).off + 1, none⟩ = some (.int .i16 ((rd_T106 l0 x6_1).f1)) ∧ w48.cell? ⟨(ad151.add ((x6_1).toNat * 3)).block, (ad151.add ((x6_1).toNat * 3)).off + 2, none⟩ = some (.int .i16 ((rd_T106 l0 x6_1).f2)) := hS_
           refine norm_ (a' := ?_) ?_ ?_
           rotate_left
           ·simp only [putAll, Act.put, List.setIfInBounds_toArray, List.set_cons_zero, List.set_cons_succ]
            rfl
           refine one_ (i := 9) (N := none) #[true, true, true, true, true, true, true, true, true, true, false] rfl rfl (one_of HT_.out (by kernel_rfl)) (by decide) (fun K hK => ?_)
           have hs49 : w48.cell? ⟨gb158, 0, none⟩ = some (.int .i64 0) := (blk_cell BK158.out 0).trans rfl
           have hfs49 := blk_frozen BK158.out 0
           have hns49_0 := NB146_158.out
           have hns49_1 := NB152_158.out
           have hns49_3 := NB159_158.out
           have hms49_0 := NB158_146.out
           have hms49_1 := NB158_152.out
           have hms49_3 := NB158_159.out
           have hs50 : w48.cell? ⟨gb158, 1, none⟩ = some (.int .i64 0) := (blk_cell BK158.out 1).trans rfl
           have hfs50 := blk_frozen BK158.out 1
           have hns50_0 := NB146_158.out
           have hns50_1 := NB152_158.out
           have hns50_3 := NB159_158.out
           have hms50_0 := NB158_146.out
           have hms50_1 := NB158_152.out
           have hms50_3 := NB158_159.out
           refine skip_ (w1 := ?_) (by rfl) rfl ?_ ?_
           rotate_left
           ·go_simp
            rfl
           refine hK.out _ _ ⟨((cell_far (p := ⟨gb158, _, none⟩) NB152_158.out _).trans (((cell_far (p := ⟨gb158, _, none⟩) NB152_158.out _).trans (hHeld.1)))), ((cell_far (p := ⟨gb158, _, none⟩) NB152_158.out _).trans (((cell_far (p := ⟨gb158, _, none⟩) NB152_158.out _).trans (hHeld.2.1)))), ((cell_far (p := ⟨gb158, _, none⟩) NB152_158.out _).trans (((cell_far (p := ⟨gb158, _, none⟩) NB152_158.out _).trans (hHeld.2.2.1)))), ((cell_far (p := ⟨gb158, _, none⟩) (by first | exact Nat.ne_of_lt (Nat.lt_of_lt_of_le (by have := World.block_lt_of_cell? _ _ hw155_0; first | rwa [add_block] at this | exact this) GW158.out) | (rw [add_block]; exact Nat.ne_of_lt (Nat.lt_of_lt_of_le (by have := World.block_lt_of_cell? _ _ hw155_0; first | rwa [add_block] at this | exact this) GW158.out)) | (show (Addr.add _ _).block ≠ _; rw [add_block]; exact Nat.ne_of_lt (Nat.lt_of_lt_of_le (by have := World.block_lt_of_cell? _ _ hw155_0; first | rwa [add_block] at this | exact this) GW158.out)) | (dsimp only; exact Nat.ne_of_lt (Nat.lt_of_lt_of_le (by have := World.block_lt_of_cell? _ _ hw155_0; first | rwa [add_block] at this | exact this) GW158.out))) _).trans (((cell_far (p := ⟨gb158, _, none⟩) (by first | exact Nat.ne_of_lt (Nat.lt_of_lt_of_le (by have := World.block_lt_of_cell? _ _ hw155_0; first | rwa [add_block] at this | exact this) GW158.out) | (rw [add_block]; exact Nat.ne_of_lt (Nat.lt_of_lt_of_le (by have := World.block_lt_of_cell? _ _ hw155_0; first | rwa [add_block] at this | exact this) GW158.out)) | (show (Addr.add _ _).block ≠ _; rw [add_block]; exact Nat.ne_of_lt (Nat.lt_of_lt_of_le (by have := World.block_lt_of_cell? _ _ hw155_0; first | rwa [add_block] at this | exact this) GW158.out)) | (dsimp only; exact Nat.ne_of_lt (Nat.lt_of_lt_of_le (by have := World.block_lt_of_cell? _ _ hw155_0; first | rwa [add_block] at this | exact this) GW158.out))) _).trans (hHeld.2.2.2.1)))), ((cell_far (p := ⟨gb158, _, none⟩) (by first | exact Nat.ne_of_lt (Nat.lt_of_lt_of_le (by have := World.block_lt_of_cell? _ _ hw155_1; first | rwa [add_block] at this | exact this) GW158.out) | (rw [add_block]; exact Nat.ne_of_lt (Nat.lt_of_lt_of_le (by have := World.block_lt_of_cell? _ _ hw155_1; first | rwa [add_block] at this | exact this) GW158.out)) | (show (Addr.add _ _).block ≠ _; rw [add_block]; exact Nat.ne_of_lt (Nat.lt_of_lt_of_le (by have := World.block_lt_of_cell? _ _ hw155_1; first | rwa [add_block] at this | exact this) GW158.out)) | (dsimp only; exact Nat.ne_of_lt (Nat.lt_of_lt_of_le (by have := World.block_lt_of_cell? _ _ hw155_1; first | rwa [add_block] at this | exact this) GW158.out))) _).trans (((cell_far (p := ⟨gb158, _, none⟩) (by first | exact Nat.ne_of_lt (Nat.lt_of_lt_of_le (by have := World.block_lt_of_cell? _ _ hw155_1; first | rwa [add_block] at this | exact this) GW158.out) | (rw [add_block]; exact Nat.ne_of_lt (Nat.lt_of_lt_of_le (by have := World.block_lt_of_cell? _ _ hw155_1; first | rwa [add_block] at this | exact this) GW158.out)) | (show (Addr.add _ _).block ≠ _; rw [add_block]; exact Nat.ne_of_lt (Nat.lt_of_lt_of_le (by have := World.block_lt_of_cell? _ _ hw155_1; first | rwa [add_block] at this | exact this) GW158.out)) | (dsimp only; exact Nat.ne_of_lt (Nat.lt_of_lt_of_le (by have := World.block_lt_of_cell? _ _ hw155_1; first | rwa [add_block] at this | exact this) GW158.out))) _).trans (hHeld.2.2.2.2.1)))), ((cell_far (p := ⟨gb158, _, none⟩) (by first | exact Nat.ne_of_lt (Nat.lt_of_lt_of_le (by have := World.block_lt_of_cell? _ _ hw155_2; first | rwa [add_block] at this | exact this) GW158.out) | (rw [add_block]; exact Nat.ne_of_lt (Nat.lt_of_lt_of_le (by have := World.block_lt_of_cell? _ _ hw155_2; first | rwa [add_block] at this | exact this) GW158.out)) | (show (Addr.add _ _).block ≠ _; rw [add_block]; exact Nat.ne_of_lt (Nat.lt_of_lt_of_le (by have := World.block_lt_of_cell? _ _ hw155_2; first | rwa [add_block] at this | exact this) GW158.out)) | (dsimp only; exact Nat.ne_of_lt (Nat.lt_of_lt_of_le (by have := World.block_lt_of_cell? _ _ hw155_2; first | rwa [add_block] at this | exact this) GW158.out))) _).trans (((cell_far (p := ⟨gb158, _, none⟩) (by first | exact Nat.ne_of_lt (Nat.lt_of_lt_of_le (by have := World.block_lt_of_cell? _ _ hw155_2; first | rwa [add_block] at this | exact this) GW158.out) | (rw [add_block]; exact Nat.ne_of_lt (Nat.lt_of_lt_of_le (by have := World.block_lt_of_cell? _ _ hw155_2; first | rwa [add_block] at this | exact this) GW158.out)) | (show (Addr.add _ _).block ≠ _; rw [add_block]; exact Nat.ne_of_lt (Nat.lt_of_lt_of_le (by have := World.block_lt_of_cell? _ _ hw155_2; first | rwa [add_block] at this | exact this) GW158.out)) | (dsimp only; exact Nat.ne_of_lt (Nat.lt_of_lt_of_le (by have := World.block_lt_of_cell? _ _ hw155_2; first | rwa [add_block] at this | exact this) GW158.out))) _).trans (hHeld.2.2.2.2.2))))⟩ (fun hHeld => ?_)
           clear hK K
           refine one_ (i := 10) (N := none) #[true, true, true, true, true, true, true, true, true, true, true] rfl rfl (one_of HT_.out (by kernel_rfl)) (by decide) (fun K hK => ?_)
           have hs51 : w48.cell? ⟨gb159, 0, none⟩ = some (.int .i64 0) := (blk_cell BK159.out 0).trans rfl
           have hfs51 := blk_frozen BK159.out 0
           have hns51_0 := NB146_159.out
           have hns51_1 := NB152_159.out
           have hns51_2 := NB158_159.out
           have hms51_0 := NB159_146.out
           have hms51_1 := NB159_152.out
           have hms51_2 := NB159_158.out
           have hs52 : w48.cell? ⟨gb159, 1, none⟩ = some (.int .i64 0) := (blk_cell BK159.out 1).trans rfl
           have hfs52 := blk_frozen BK159.out 1
           have hns52_0 := NB146_159.out
           have hns52_1 := NB152_159.out
           have hns52_2 := NB158_159.out
           have hms52_0 := NB159_146.out
           have hms52_1 := NB159_152.out
           have hms52_2 := NB159_158.out
           refine skip_ (w1 := ?_) (by rfl) rfl ?_ ?_
           rotate_left
           ·go_simp
            rfl
           refine hK.out _ _ ⟨((cell_far (p := ⟨gb159, _, none⟩) NB152_159.out _).trans (((cell_far (p := ⟨gb159, _, none⟩) NB152_159.out _).trans (hHeld.1)))), ((cell_far (p := ⟨gb159, _, none⟩) NB152_159.out _).trans (((cell_far (p := ⟨gb159, _, none⟩) NB152_159.out _).trans (hHeld.2.1)))), ((cell_far (p := ⟨gb159, _, none⟩) NB152_159.out _).trans (((cell_far (p := ⟨gb159, _, none⟩) NB152_159.out _).trans (hHeld.2.2.1)))), ((cell_far (p := ⟨gb159, _, none⟩) (by first | exact Nat.ne_of_lt (Nat.lt_of_lt_of_le (by have := World.block_lt_of_cell? _ _ hw155_0; first | rwa [add_block] at this | exact this) GW159.out) | (rw [add_block]; exact Nat.ne_of_lt (Nat.lt_of_lt_of_le (by have := World.block_lt_of_cell? _ _ hw155_0; first | rwa [add_block] at this | exact this) GW159.out)) | (show (Addr.add _ _).block ≠ _; rw [add_block]; exact Nat.ne_of_lt (Nat.lt_of_lt_of_le (by have := World.block_lt_of_cell? _ _ hw155_0; first | rwa [add_block] at this | exact this) GW159.out)) | (dsimp only; exact Nat.ne_of_lt (Nat.lt_of_lt_of_le (by have := World.block_lt_of_cell? _ _ hw155_0; first | rwa [add_block] at this | exact this) GW159.out))) _).trans (((cell_far (p := ⟨gb159, _, none⟩) (by first | exact Nat.ne_of_lt (Nat.lt_of_lt_of_le (by have := World.block_lt_of_cell? _ _ hw155_0; first | rwa [add_block] at this | exact this) GW159.out) | (rw [add_block]; exact Nat.ne_of_lt (Nat.lt_of_lt_of_le (by have := World.block_lt_of_cell? _ _ hw155_0; first | rwa [add_block] at this | exact this) GW159.out)) | (show (Addr.add _ _).block ≠ _; rw [add_block]; exact Nat.ne_of_lt (Nat.lt_of_lt_of_le (by have := World.block_lt_of_cell? _ _ hw155_0; first | rwa [add_block] at this | exact this) GW159.out)) | (dsimp only; exact Nat.ne_of_lt (Nat.lt_of_lt_of_le (by have := World.block_lt_of_cell? _ _ hw155_0; first | rwa [add_block] at this | exact this) GW159.out))) _).trans (hHeld.2.2.2.1)))), ((cell_far (p := ⟨gb159, _, none⟩) (by first | exact Nat.ne_of_lt (Nat.lt_of_lt_of_le (by have := World.block_lt_of_cell? _ _ hw155_1; first | rwa [add_block] at this | exact this) GW159.out) | (rw [add_block]; exact Nat.ne_of_lt (Nat.lt_of_lt_of_le (by have := World.block_lt_of_cell? _ _ hw155_1; first | rwa [add_block] at this | exact this) GW159.out)) | (show (Addr.add _ _).block ≠ _; rw [add_block]; exact Nat.ne_of_lt (Nat.lt_of_lt_of_le (by have := World.block_lt_of_cell? _ _ hw155_1; first | rwa [add_block] at this | exact this) GW159.out)) | (dsimp only; exact Nat.ne_of_lt (Nat.lt_of_lt_of_le (by have := World.block_lt_of_cell? _ _ hw155_1; first | rwa [add_block] at this | exact this) GW159.out))) _).trans (((cell_far (p := ⟨gb159, _, none⟩) (by first | exact Nat.ne_of_lt (Nat.lt_of_lt_of_le (by have := World.block_lt_of_cell? _ _ hw155_1; first | rwa [add_block] at this | exact this) GW159.out) | (rw [add_block]; exact Nat.ne_of_lt (Nat.lt_of_lt_of_le (by have := World.block_lt_of_cell? _ _ hw155_1; first | rwa [add_block] at this | exact this) GW159.out)) | (show (Addr.add _ _).block ≠ _; rw [add_block]; exact Nat.ne_of_lt (Nat.lt_of_lt_of_le (by have := World.block_lt_of_cell? _ _ hw155_1; first | rwa [add_block] at this | exact this) GW159.out)) | (dsimp only; exact Nat.ne_of_lt (Nat.lt_of_lt_of_le (by have := World.block_lt_of_cell? _ _ hw155_1; first | rwa [add_block] at this | exact this) GW159.out))) _).trans (hHeld.2.2.2.2.1)))), ((cell_far (p := ⟨gb159, _, none⟩) (by first | exact Nat.ne_of_lt (Nat.lt_of_lt_of_le (by have := World.block_lt_of_cell? _ _ hw155_2; first | rwa [add_block] at this | exact this) GW159.out) | (rw [add_block]; exact Nat.ne_of_lt (Nat.lt_of_lt_of_le (by have := World.block_lt_of_cell? _ _ hw155_2; first | rwa [add_block] at this | exact this) GW159.out)) | (show (Addr.add _ _).block ≠ _; rw [add_block]; exact Nat.ne_of_lt (Nat.lt_of_lt_of_le (by have := World.block_lt_of_cell? _ _ hw155_2; first | rwa [add_block] at this | exact this) GW159.out)) | (dsimp only; exact Nat.ne_of_lt (Nat.lt_of_lt_of_le (by have := World.block_lt_of_cell? _ _ hw155_2; first | rwa [add_block] at this | exact this) GW159.out))) _).trans (((cell_far (p := ⟨gb159, _, none⟩) (by first | exact Nat.ne_of_lt (Nat.lt_of_lt_of_le (by have := World.block_lt_of_cell? _ _ hw155_2; first | rwa [add_block] at this | exact this) GW159.out) | (rw [add_block]; exact Nat.ne_of_lt (Nat.lt_of_lt_of_le (by have := World.block_lt_of_cell? _ _ hw155_2; first | rwa [add_block] at this | exact this) GW159.out)) | (show (Addr.add _ _).block ≠ _; rw [add_block]; exact Nat.ne_of_lt (Nat.lt_of_lt_of_le (by have := World.block_lt_of_cell? _ _ hw155_2; first | rwa [add_block] at this | exact this) GW159.out)) | (dsimp only; exact Nat.ne_of_lt (Nat.lt_of_lt_of_le (by have := World.block_lt_of_cell? _ _ hw155_2; first | rwa [add_block] at this | exact this) GW159.out))) _).trans (hHeld.2.2.2.2.2))))⟩ (fun hHeld => ?_)
           clear hK K
           refine done_ (done_of HT_.out (by kernel_rfl)) ?_
           have hnb53 := NB158_146.out
           have hnc53 := NB146_158.out
           have hnb54 := NB158_152.out
           have hnc54 := NB152_158.out
           have hnb55 := NB158_159.out
           have hnc55 := NB159_158.out
           have hcz56_0 : w48.cell? ⟨gb158, 0, none⟩ = some (.int .i64 0) := (blk_cell BK158.out 0).trans rfl
           have hcz56_1 : w48.cell? ⟨gb158, 1, none⟩ = some (.int .i64 0) := (blk_cell BK158.out 1).trans rfl
           have hfz56_0 := blk_frozen BK158.out 0
           have hfz56_1 := blk_frozen BK158.out 1
           have hnb57 := NB159_146.out
           have hnc57 := NB146_159.out
           have hnb58 := NB159_152.out
           have hnc58 := NB152_159.out
           have hcz59_0 : w48.cell? ⟨gb159, 0, none⟩ = some (.int .i64 0) := (blk_cell BK159.out 0).trans rfl
           have hcz59_1 : w48.cell? ⟨gb159, 1, none⟩ = some (.int .i64 0) := (blk_cell BK159.out 1).trans rfl
           have hfz59_0 := blk_frozen BK159.out 0
           have hfz59_1 := blk_frozen BK159.out 1
           try go_wp2
           go_roundg k1
           case measure => have := HK1.out; omega
           case rel => exact ⟨(x6_1), (wrap64 (x23_1 + 1)), (by first | rfl | (simp; done) | (simp [*]; done)), (by first | rfl | (simp; done) | (simp [*]; done)), H', ⟨by have := HK1.out; omega⟩, ⟨by (with_reducible repeat (first | refine blk_drewN ?_ _ | refine blk_drew ?_ | refine blk_alloc ?_ _)); refine blk_far ?_ NB146_159.out _; (with_reducible repeat (first | refine blk_drewN ?_ _ | refine blk_drew ?_ | refine blk_alloc ?_ _)); refine blk_far ?_ NB146_159.out _; (with_reducible repeat (first | refine blk_drewN ?_ _ | refine blk_drew ?_ | refine blk_alloc ?_ _)); refine blk_far ?_ NB146_158.out _; (with_reducible repeat (first | refine blk_drewN ?_ _ | refine blk_drew ?_ | refine blk_alloc ?_ _)); refine blk_far ?_ NB146_158.out _; (with_reducible repeat (first | refine blk_drewN ?_ _ | refine blk_drew ?_ | refine blk_alloc ?_ _)); exact BK146.out⟩, ⟨by repeat (first | (with_reducible first | exact HB.out | apply below_alloc | apply pw_below_drewN | apply below_drew1 | refine below_set ?_ GE146.out | refine below_set ?_ GE152.out | refine below_set ?_ GE158.out | refine below_set ?_ GE159.out) | exact HB.out)⟩⟩
         ·rw [if_neg c15] at H
          exact absurd H (by simp)
        ·rw [if_neg c14] at H
         exact absurd H (by simp)
       ·rw [if_neg c12] at H
        exact absurd H (by simp)
      ·rw [if_neg c11] at H
       exact absurd H (by simp)
     ·rw [if_neg c10] at H
      have c10b0 : decide (x23_1 < (l0.length : Int)) = false := decide_eq_false c10
      clear c10
      by_cases c60 : 0 ≤ x6_1
      ·rw [if_pos c60] at H
       have c60b0 : decide (0 ≤ x6_1) = true := decide_eq_true c60
       clear c60
       by_cases c61 : x6_1 < (l0.length : Int)
       ·rw [if_pos c61] at H
        have c61b0 : decide (x6_1 < (l0.length : Int)) = true := decide_eq_true c61
        clear c61
        replace H := Option.bind_eq_some_iff.mp H
        obtain ⟨⟨t149, t150⟩, A620, H⟩ := H
        replace H : (some (x6_1, t149, t150, 0)) = some (r1, r2, r3, r4) := H
        have A62 := Aside0.mk A620
        clear A620
        simp only [Option.some.injEq, Prod.mk.injEq] at H
        obtain ⟨rfl, rfl, rfl, rfl⟩ := H
        have p148 : 0 ≤ (x6_1 : Int) := of_decide_eq_true (by first | (with_reducible assumption) | assumption)
        have q148 : x6_1 < (l0.length : Int) := of_decide_eq_true (by first | (with_reducible assumption) | assumption)
        obtain ⟨ad148, e148, hx148_0, hx148_1, hx148_2⟩ := at_T106 HR0.out x6_1 p148 q148
        cases e148
        replace hx148_0 := (HB.out.cell (World.block_lt_of_cell? w _ hx148_0)).trans hx148_0
        replace hx148_1 := (HB.out.cell (World.block_lt_of_cell? w _ hx148_1)).trans hx148_1
        replace hx148_2 := (HB.out.cell (World.block_lt_of_cell? w _ hx148_2)).trans hx148_2
        replace p148 := eq_true p148
        replace q148 := eq_true q148
        go_wp2_with (first | ((with_reducible refine gate_callee (f := 82) rfl ?_); refine goesL_ (some 53) rfl rfl Try.func82 (by kernel_rfl) rfl #[.agg #[.int .i16 ((rd_T106 l0 x6_1).f0), .int .i16 ((rd_T106 l0 x6_1).f1), .int .i16 ((rd_T106 l0 x6_1).f2)]] rfl (by (try simp only [List.map_toArray, List.map_cons, List.map_nil]); first | done | rfl | (simp only [List.length_drop, List.length_take]; rfl)) ?_; (with_reducible refine (impl_Yarn_count.calls k1 ((rd_T106 l0 x6_1).f0) ((rd_T106 l0 x6_1).f1) ((rd_T106 l0 x6_1).f2) t149 t150 _ A62.out).mono ?_); rintro e w63 ⟨rfl, hb⟩; refine ⟨_, rfl, ?_⟩; have n0_ := Aside0.mk (blk_below (g := gb146) (o := .cells #[.int .i64 0, .int .i64 0] 45 (0, 0)) BK146.out hb); have n1_ := Aside0.mk (below_step HB.out hb); clear BK146; clear HB; have BK146 := n0_; have HB := n1_; clear n0_ n1_; (try clear hb); (try clear hb2); (try clear hk); (try clear hi); have hcz64_0 : w63.cell? ⟨gb146, 0, none⟩ = some (.int .i64 0) := (blk_cell BK146.out 0).trans rfl; have hcz64_1 : w63.cell? ⟨gb146, 1, none⟩ = some (.int .i64 0) := (blk_cell BK146.out 1).trans rfl; have hfz64_0 := blk_frozen BK146.out 0; have hfz64_1 := blk_frozen BK146.out 1))
        refine bodyPost_ret (results_list (rs := [.tmp 2, .cell 3 45, .tmp 4]) rfl (by simp) (.tmp (.cell gb146 45 #[.int .i64 t149, .int .i64 t150] (0, 0) _ rfl (by (with_reducible repeat (first | refine blk_drewN ?_ _ | refine blk_drew ?_ | refine blk_alloc ?_ _)); refine blk_put (cs := #[.int .i64 t149, .int .i64 0]) ?_ 1 _ rfl; (with_reducible repeat (first | refine blk_drewN ?_ _ | refine blk_drew ?_ | refine blk_alloc ?_ _)); refine blk_put (cs := #[.int .i64 0, .int .i64 0]) ?_ 0 _ rfl; (with_reducible repeat (first | refine blk_drewN ?_ _ | refine blk_drew ?_ | refine blk_alloc ?_ _)); exact BK146.out) Try.underlying45 rfl (by kernel_rfl) (.tmp .nil)))) rfl ?_
        exact ⟨by first | rfl | (simp [errW_none, errW_some] <;> rfl) | (simp [*, errW_none, errW_some] <;> rfl), by repeat (first | (with_reducible first | exact HB.out | apply below_alloc | apply pw_below_drewN | apply below_drew1 | refine below_set ?_ GE146.out) | exact HB.out)⟩
       ·rw [if_neg c61] at H
        exact absurd H (by simp)
      ·rw [if_neg c60] at H
       exact absurd H (by simp)
 ·rw [if_neg c3] at H
  have c3b0 : (t147 == 0) = false := beq_eq_false_iff_ne.mpr c3
  have c3b1 : (t147 != 0) = true := bne_iff_ne.mpr c3
  simp only [Option.some.injEq, Prod.mk.injEq] at H
  obtain ⟨rfl, rfl, rfl, rfl⟩ := H
  go_enter Try.func29, Try.ntmps29
  go_wp2_with (first | ((with_reducible refine gate_dst (N := 3) rfl ?_); refine box_event ?hg (N := 3) ?hd (cs := #[.int .i64 0, .int .i64 0]) (t := 45) ?hr ?_; (case hd => rfl); (case hg => rfl); (case hr => first | (go_simp; done) | (go_simp; rfl)); intro gb146 hg w65 hbox hb; have n0_ := Aside0.mk (below_step HB.out hb); have n1_ := Aside0.mk (hbox); have n2_ := Aside0.mk ((by rw [hg]; exact (below_size HB.out) : w.heap.size ≤ gb146)); have n3_ := Aside0.mk ((by rw [hg]; exact (below_size HB.out) : w.heap.size ≤ gb146)); clear HB; have HB := n0_; have BK146 := n1_; have GW146 := n2_; have GE146 := n3_; clear n0_ n1_ n2_ n3_; clear hb hbox hg) | ((with_reducible refine gate_callee (f := 81) rfl ?_); refine goesL_ (some 12) rfl rfl Try.func81 (by kernel_rfl) rfl #[.slice A0 l0.length c0, .bool true] rfl (by (try simp only [List.map_toArray, List.map_cons, List.map_nil]); first | done | rfl | (simp only [List.length_drop, List.length_take]; rfl)) ?_; (with_reducible refine (impl_yarnsCode.calls _ _ l0 true t147 _ ?side1 ?side2 A2.out).mono ?_); (case side1 => repeat (first | exact (Kd.C_below HR0.out HB.out) | (with_reducible refine Kd.C_alloc ?_ _) | (with_reducible refine Kd.C_drewN ?_ _) | (with_reducible refine Kd.C_drew ?_))); (case side2 => exact HC0.out); rintro e w66 ⟨rfl, hb⟩; refine ⟨_, rfl, ?_⟩; have n0_ := Aside0.mk (blk_below (g := gb146) (o := .cells #[.int .i64 0, .int .i64 0] 45 (0, 0)) BK146.out hb); have n1_ := Aside0.mk (below_step HB.out hb); clear BK146; clear HB; have BK146 := n0_; have HB := n1_; clear n0_ n1_; (try clear hb); (try clear hb2); (try clear hk); (try clear hi); have hcz67_0 : w66.cell? ⟨gb146, 0, none⟩ = some (.int .i64 0) := (blk_cell BK146.out 0).trans rfl; have hcz67_1 : w66.cell? ⟨gb146, 1, none⟩ = some (.int .i64 0) := (blk_cell BK146.out 1).trans rfl; have hfz67_0 := blk_frozen BK146.out 0; have hfz67_1 := blk_frozen BK146.out 1))
  refine bodyPost_ret (results_list (rs := [.tmp 2, .cell 3 45, .tmp 4]) rfl (by simp) (.tmp (.cell gb146 45 #[.int .i64 0, .int .i64 0] (0, 0) _ rfl (by (with_reducible repeat (first | refine blk_drewN ?_ _ | refine blk_drew ?_ | refine blk_alloc ?_ _)); refine blk_put (cs := #[.int .i64 0, .int .i64 0]) ?_ 1 _ rfl; (with_reducible repeat (first | refine blk_drewN ?_ _ | refine blk_drew ?_ | refine blk_alloc ?_ _)); refine blk_put (cs := #[.int .i64 0, .int .i64 0]) ?_ 0 _ rfl; (with_reducible repeat (first | refine blk_drewN ?_ _ | refine blk_drew ?_ | refine blk_alloc ?_ _)); exact BK146.out) Try.underlying45 rfl (by kernel_rfl) (.tmp .nil)))) rfl ?_
  exact ⟨by first | rfl | (simp [errW_none, errW_some] <;> rfl) | (simp [*, errW_none, errW_some] <;> rfl), by repeat (first | (with_reducible first | exact HB.out | apply below_alloc | apply pw_below_drewN | apply below_drew1 | refine below_set ?_ GE146.out) | exact HB.out)⟩

end Go.Proofs.Ytfkckobfpfkbjaa.XFnExactWeakestOf
