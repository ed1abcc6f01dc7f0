/- The functions that the law FnPlies reaches: each as a Lean function, and that its call does what that function says; no conditions. -/
import Derived.Test.YthfanjdbemoaaaaXFnPliesx0
import Derived.Test.YthfanjdbemoaaaaXFnPliesx4
import Derived.Test.YthfanjdbemoaaaaXFnPliesx5
import Derived.Test.YthfanjdbemoaaaaXFnPliesx6
namespace Go.Proofs.Ythfanjdbemoaaaa.XFnPlies
open Go.RowKit Go.Proofs.YthfanjdbemoaaaaW.PrintWords Go.Proofs.YthfanjdbemoaaaaW.PrintLast Go.Proofs.YthfanjdbemoaaaaW.PrintMore
attribute [local go_sem] max2_int min2_int max_two min_two max_three min_three max_four min_four   -- for this text's walks alone
set_option linter.unusedVariables false
set_option linter.unusedSimpArgs false

/-! ### impl_makeYarn: function 34 -/
def impl_makeYarn.f (a0 : Int) (a1 : Int) (a2 : Int) : Option (Int × Int × Int × Bool) := (impl_within.f a0 1 5000).bind fun t201 => (if t201 = true then ((impl_within.f a1 (-2000) 2000).bind fun t202 => (if t202 = true then ((impl_within.f a2 1 2000).bind fun t203 => (if t203 = true then (some (IntKind.i16.wrap (a0), IntKind.i16.wrap (a1), IntKind.i16.wrap (a2), true)) else (some (0, 0, 0, false)))) else (some (0, 0, 0, false)))) else (some (0, 0, 0, false)))
set_option maxHeartbeats 8000000 in
set_option maxRecDepth 100000 in
theorem impl_makeYarn.calls (a0 : Int) (a1 : Int) (a2 : Int) (r1 : Int) (r2 : Int) (r3 : Int) (r4 : Bool) (w : World) (h : impl_makeYarn.f a0 a1 a2 = some (r1, r2, r3, r4)) :
    Calls Try.prog 34 #[.int .i64 a0, .int .i64 a1, .int .i64 a2] w fun e w' => e = .returned (.tuple #[.agg #[.int .i16 r1, .int .i16 r2, .int .i16 r3], .bool r4]) ∧ Below w.heap.size w w' := by
 have hu33 := Try.underlying33
 have HB := Aside0.mk (Below.refl w.heap.size w)
 have H : ((impl_within.f a0 1 5000).bind fun t201 => (if t201 = true then ((impl_within.f a1 (-2000) 2000).bind fun t202 => (if t202 = true then ((impl_within.f a2 1 2000).bind fun t203 => (if t203 = true then (some (IntKind.i16.wrap (a0), IntKind.i16.wrap (a1), IntKind.i16.wrap (a2), true)) else (some (0, 0, 0, false)))) else (some (0, 0, 0, false)))) else (some (0, 0, 0, false)))) = some (r1, r2, r3, r4) := h
 clear h
 replace H := Option.bind_eq_some_iff.mp H
 obtain ⟨t201, A40, H⟩ := H
 replace H : (if t201 = true then ((impl_within.f a1 (-2000) 2000).bind fun t202 => (if t202 = true then ((impl_within.f a2 1 2000).bind fun t203 => (if t203 = true then (some (IntKind.i16.wrap (a0), IntKind.i16.wrap (a1), IntKind.i16.wrap (a2), true)) else (some (0, 0, 0, false)))) else (some (0, 0, 0, false)))) else (some (0, 0, 0, false))) = some (r1, r2, r3, r4) := H
 have A4 := Aside0.mk A40
 clear A40
 by_cases c5 : t201 = true
 rotate_left
 · replace c5 := Bool.eq_false_iff.mpr c5
   subst c5
   have H1 : (some (0, 0, 0, false)) = some (r1, r2, r3, r4) := by rw [if_neg (show ¬ (false = true) by decide)] at H; exact H
   clear H
   have H := H1
   clear H1
   simp only [Option.some.injEq, Prod.mk.injEq] at H
   obtain ⟨rfl, rfl, rfl, rfl⟩ := H
   go_enter Try.func34, Try.ntmps34
   go_wp2_with (first | ((with_reducible refine gate_dst (N := 6) rfl ?_); refine box_event ?hg (N := 6) ?hd (cs := #[.int .i16 0, .int .i16 0, .int .i16 0]) (t := 33) ?hr ?_; (case hd => rfl); (case hg => rfl); (case hr => first | (go_simp; done) | (go_simp; rfl)); intro gb200 hg w16 hbox hb; refine up4 (below_step (zb HB.out) hb) (hbox) ((by rw [hg]; exact (below_size (zb HB.out)) : w.heap.size ≤ gb200)) ((by rw [hg]; exact (below_size (zb HB.out)) : w.heap.size ≤ gb200)) ?_; clear HB; intro HB BK200 GW200 GE200; clear hb hbox hg) | ((with_reducible refine gate_callee (f := 45) rfl ?_); refine goesL_ (some 9) rfl rfl Try.func45 (by kernel_rfl) rfl #[.int .i64 a0, .int .i64 1, .int .i64 5000] rfl zr ?_; (with_reducible refine (impl_within.calls a0 1 5000 false _ A4.out).mono ?_); rintro e w' ⟨rfl, ⟨nd, rfl⟩⟩; refine ⟨_, rfl, ?_⟩; (try (rw [drewN_self w16]; generalize hq_ : World.drewN w16 _ = w16; refine up2 (show w16.heap[gb200]? = some (.cells #[.int .i16 0, .int .i16 0, .int .i16 0] 33 (0, 0)) from by rw [← hq_]; exact (zq BK200.out)) (show Below w.heap.size w w16 from by rw [← hq_]; exact (zb1 HB.out GE200.out)) ?_; clear BK200 HB hq_; intro BK200 HB)); have hcz17_0 : w16.cell? ⟨gb200, 0, none⟩ = some (.int .i16 0) := (blk_cell BK200.out 0).trans rfl; have hcz17_1 : w16.cell? ⟨gb200, 1, none⟩ = some (.int .i16 0) := (blk_cell BK200.out 1).trans rfl; have hcz17_2 : w16.cell? ⟨gb200, 2, none⟩ = some (.int .i16 0) := (blk_cell BK200.out 2).trans rfl; have hfz17_0 := blk_frozen BK200.out 0; have hfz17_1 := blk_frozen BK200.out 1; have hfz17_2 := blk_frozen BK200.out 2))
   refine bodyPost_ret (results_ct rfl _ _ gb200 33 #[.int .i16 0, .int .i16 0, .int .i16 0] (0, 0) _ rfl (by (with_reducible repeat (first | refine blk_drewN ?_ _ | refine blk_drew ?_ | refine blk_alloc ?_ _)); refine blk_put (cs := #[.int .i16 0, .int .i16 0, .int .i16 0]) ?_ 2 _ rfl; (with_reducible repeat (first | refine blk_drewN ?_ _ | refine blk_drew ?_ | refine blk_alloc ?_ _)); refine blk_put (cs := #[.int .i16 0, .int .i16 0, .int .i16 0]) ?_ 1 _ rfl; (with_reducible repeat (first | refine blk_drewN ?_ _ | refine blk_drew ?_ | refine blk_alloc ?_ _)); refine blk_put (cs := #[.int .i16 0, .int .i16 0, .int .i16 0]) ?_ 0 _ rfl; (with_reducible repeat (first | refine blk_drewN ?_ _ | refine blk_drew ?_ | refine blk_alloc ?_ _)); exact BK200.out) Try.underlying33 rfl (by kernel_rfl)) rfl ?_
   exact ⟨zs, zb1 HB.out GE200.out⟩
 subst c5
 have H1 : ((impl_within.f a1 (-2000) 2000).bind fun t202 => (if t202 = true then ((impl_within.f a2 1 2000).bind fun t203 => (if t203 = true then (some (IntKind.i16.wrap (a0), IntKind.i16.wrap (a1), IntKind.i16.wrap (a2), true)) else (some (0, 0, 0, false)))) else (some (0, 0, 0, false)))) = some (r1, r2, r3, r4) := by rw [if_pos rfl] at H; exact H
 clear H
 have H := H1
 clear H1
 replace H := Option.bind_eq_some_iff.mp H
 obtain ⟨t202, A60, H⟩ := H
 replace H : (if t202 = true then ((impl_within.f a2 1 2000).bind fun t203 => (if t203 = true then (some (IntKind.i16.wrap (a0), IntKind.i16.wrap (a1), IntKind.i16.wrap (a2), true)) else (some (0, 0, 0, false)))) else (some (0, 0, 0, false))) = some (r1, r2, r3, r4) := H
 have A6 := Aside0.mk A60
 clear A60
 by_cases c7 : t202 = true
 rotate_left
 · replace c7 := Bool.eq_false_iff.mpr c7
   subst c7
   have H1 : (some (0, 0, 0, false)) = some (r1, r2, r3, r4) := by rw [if_neg (show ¬ (false = true) by decide)] at H; exact H
   clear H
   have H := H1
   clear H1
   simp only [Option.some.injEq, Prod.mk.injEq] at H
   obtain ⟨rfl, rfl, rfl, rfl⟩ := H
   go_enter Try.func34, Try.ntmps34
   go_wp2_with (first | ((with_reducible refine gate_dst (N := 6) rfl ?_); refine box_event ?hg (N := 6) ?hd (cs := #[.int .i16 0, .int .i16 0, .int .i16 0]) (t := 33) ?hr ?_; (case hd => rfl); (case hg => rfl); (case hr => first | (go_simp; done) | (go_simp; rfl)); intro gb200 hg w14 hbox hb; refine up4 (below_step (zb HB.out) hb) (hbox) ((by rw [hg]; exact (below_size (zb HB.out)) : w.heap.size ≤ gb200)) ((by rw [hg]; exact (below_size (zb HB.out)) : w.heap.size ≤ gb200)) ?_; clear HB; intro HB BK200 GW200 GE200; clear hb hbox hg) | ((with_reducible refine gate_callee (f := 45) rfl ?_); refine goesL_ (some 9) rfl rfl Try.func45 (by kernel_rfl) rfl #[.int .i64 a0, .int .i64 1, .int .i64 5000] rfl zr ?_; (with_reducible refine (impl_within.calls a0 1 5000 true _ A4.out).mono ?_); rintro e w' ⟨rfl, ⟨nd, rfl⟩⟩; refine ⟨_, rfl, ?_⟩; (try (rw [drewN_self w14]; generalize hq_ : World.drewN w14 _ = w14; refine up2 (show w14.heap[gb200]? = some (.cells #[.int .i16 0, .int .i16 0, .int .i16 0] 33 (0, 0)) from by rw [← hq_]; exact (zq BK200.out)) (show Below w.heap.size w w14 from by rw [← hq_]; exact (zb1 HB.out GE200.out)) ?_; clear BK200 HB hq_; intro BK200 HB))) | (go_at_call 45; (with_reducible refine (impl_within.calls a1 (-2000) 2000 false _ A6.out).mono ?_); rintro e w' ⟨rfl, ⟨nd, rfl⟩⟩; (try (rw [drewN_self w14]; generalize hq_ : World.drewN w14 _ = w14; refine up2 (show w14.heap[gb200]? = some (.cells #[.int .i16 0, .int .i16 0, .int .i16 0] 33 (0, 0)) from by rw [← hq_]; exact (zq BK200.out)) (show Below w.heap.size w w14 from by rw [← hq_]; exact (zb1 HB.out GE200.out)) ?_; clear BK200 HB hq_; intro BK200 HB)); have hcz15_0 : w14.cell? ⟨gb200, 0, none⟩ = some (.int .i16 0) := (blk_cell BK200.out 0).trans rfl; have hcz15_1 : w14.cell? ⟨gb200, 1, none⟩ = some (.int .i16 0) := (blk_cell BK200.out 1).trans rfl; have hcz15_2 : w14.cell? ⟨gb200, 2, none⟩ = some (.int .i16 0) := (blk_cell BK200.out 2).trans rfl; have hfz15_0 := blk_frozen BK200.out 0; have hfz15_1 := blk_frozen BK200.out 1; have hfz15_2 := blk_frozen BK200.out 2))
   refine bodyPost_ret (results_ct rfl _ _ gb200 33 #[.int .i16 0, .int .i16 0, .int .i16 0] (0, 0) _ rfl (by (with_reducible repeat (first | refine blk_drewN ?_ _ | refine blk_drew ?_ | refine blk_alloc ?_ _)); refine blk_put (cs := #[.int .i16 0, .int .i16 0, .int .i16 0]) ?_ 2 _ rfl; (with_reducible repeat (first | refine blk_drewN ?_ _ | refine blk_drew ?_ | refine blk_alloc ?_ _)); refine blk_put (cs := #[.int .i16 0, .int .i16 0, .int .i16 0]) ?_ 1 _ rfl; (with_reducible repeat (first | refine blk_drewN ?_ _ | refine blk_drew ?_ | refine blk_alloc ?_ _)); refine blk_put (cs := #[.int .i16 0, .int .i16 0, .int .i16 0]) ?_ 0 _ rfl; (with_reducible repeat (first | refine blk_drewN ?_ _ | refine blk_drew ?_ | refine blk_alloc ?_ _)); exact BK200.out) Try.underlying33 rfl (by kernel_rfl)) rfl ?_
   exact ⟨zs, zb1 HB.out GE200.out⟩
 subst c7
 have H1 : ((impl_within.f a2 1 2000).bind fun t203 => (if t203 = true then (some (IntKind.i16.wrap (a0), IntKind.i16.wrap (a1), IntKind.i16.wrap (a2), true)) else (some (0, 0, 0, false)))) = some (r1, r2, r3, r4) := by rw [if_pos rfl] at H; exact H
 clear H
 have H := H1
 clear H1
 replace H := Option.bind_eq_some_iff.mp H
 obtain ⟨t203, A80, H⟩ := H
 replace H : (if t203 = true then (some (IntKind.i16.wrap (a0), IntKind.i16.wrap (a1), IntKind.i16.wrap (a2), true)) else (some (0, 0, 0, false))) = some (r1, r2, r3, r4) := H
 have A8 := Aside0.mk A80
 clear A80
 by_cases c9 : t203 = true
 · subst c9
   have H1 : (some (IntKind.i16.wrap (a0), IntKind.i16.wrap (a1), IntKind.i16.wrap (a2), true)) = some (r1, r2, r3, r4) := by rw [if_pos rfl] at H; exact H
   clear H
   have H := H1
   clear H1
   simp only [Option.some.injEq, Prod.mk.injEq] at H
   obtain ⟨rfl, rfl, rfl, rfl⟩ := H
   go_enter Try.func34, Try.ntmps34
   go_wp2_with (first | ((with_reducible refine gate_dst (N := 6) rfl ?_); refine box_event ?hg (N := 6) ?hd (cs := #[.int .i16 0, .int .i16 0, .int .i16 0]) (t := 33) ?hr ?_; (case hd => rfl); (case hg => rfl); (case hr => first | (go_simp; done) | (go_simp; rfl)); intro gb200 hg w10 hbox hb; refine up4 (below_step (zb HB.out) hb) (hbox) ((by rw [hg]; exact (below_size (zb HB.out)) : w.heap.size ≤ gb200)) ((by rw [hg]; exact (below_size (zb HB.out)) : w.heap.size ≤ gb200)) ?_; clear HB; intro HB BK200 GW200 GE200; clear hb hbox hg) | ((with_reducible refine gate_callee (f := 45) rfl ?_); refine goesL_ (some 9) rfl rfl Try.func45 (by kernel_rfl) rfl #[.int .i64 a0, .int .i64 1, .int .i64 5000] rfl zr ?_; (with_reducible refine (impl_within.calls a0 1 5000 true _ A4.out).mono ?_); rintro e w' ⟨rfl, ⟨nd, rfl⟩⟩; refine ⟨_, rfl, ?_⟩; (try (rw [drewN_self w10]; generalize hq_ : World.drewN w10 _ = w10; refine up2 (show w10.heap[gb200]? = some (.cells #[.int .i16 0, .int .i16 0, .int .i16 0] 33 (0, 0)) from by rw [← hq_]; exact (zq BK200.out)) (show Below w.heap.size w w10 from by rw [← hq_]; exact (zb1 HB.out GE200.out)) ?_; clear BK200 HB hq_; intro BK200 HB))) | (go_at_call 45; (with_reducible refine (impl_within.calls a1 (-2000) 2000 true _ A6.out).mono ?_); rintro e w' ⟨rfl, ⟨nd, rfl⟩⟩; (try (rw [drewN_self w10]; generalize hq_ : World.drewN w10 _ = w10; refine up2 (show w10.heap[gb200]? = some (.cells #[.int .i16 0, .int .i16 0, .int .i16 0] 33 (0, 0)) from by rw [← hq_]; exact (zq BK200.out)) (show Below w.heap.size w w10 from by rw [← hq_]; exact (zb1 HB.out GE200.out)) ?_; clear BK200 HB hq_; intro BK200 HB))) | (go_at_call 45; (with_reducible refine (impl_within.calls a2 1 2000 true _ A8.out).mono ?_); rintro e w' ⟨rfl, ⟨nd, rfl⟩⟩; (try (rw [drewN_self w10]; generalize hq_ : World.drewN w10 _ = w10; refine up2 (show w10.heap[gb200]? = some (.cells #[.int .i16 0, .int .i16 0, .int .i16 0] 33 (0, 0)) from by rw [← hq_]; exact (zq BK200.out)) (show Below w.heap.size w w10 from by rw [← hq_]; exact (zb1 HB.out GE200.out)) ?_; clear BK200 HB hq_; intro BK200 HB)); have hcz11_0 : w10.cell? ⟨gb200, 0, none⟩ = some (.int .i16 0) := (blk_cell BK200.out 0).trans rfl; have hcz11_1 : w10.cell? ⟨gb200, 1, none⟩ = some (.int .i16 0) := (blk_cell BK200.out 1).trans rfl; have hcz11_2 : w10.cell? ⟨gb200, 2, none⟩ = some (.int .i16 0) := (blk_cell BK200.out 2).trans rfl; have hfz11_0 := blk_frozen BK200.out 0; have hfz11_1 := blk_frozen BK200.out 1; have hfz11_2 := blk_frozen BK200.out 2))
   refine bodyPost_ret (results_ct rfl _ _ gb200 33 #[.int .i16 (IntKind.i16.wrap (a0)), .int .i16 (IntKind.i16.wrap (a1)), .int .i16 (IntKind.i16.wrap (a2))] (0, 0) _ rfl (by (with_reducible repeat (first | refine blk_drewN ?_ _ | refine blk_drew ?_ | refine blk_alloc ?_ _)); refine blk_put (cs := #[.int .i16 (IntKind.i16.wrap (a0)), .int .i16 (IntKind.i16.wrap (a1)), .int .i16 0]) ?_ 2 _ rfl; (with_reducible repeat (first | refine blk_drewN ?_ _ | refine blk_drew ?_ | refine blk_alloc ?_ _)); refine blk_put (cs := #[.int .i16 (IntKind.i16.wrap (a0)), .int .i16 0, .int .i16 0]) ?_ 1 _ rfl; (with_reducible repeat (first | refine blk_drewN ?_ _ | refine blk_drew ?_ | refine blk_alloc ?_ _)); refine blk_put (cs := #[.int .i16 0, .int .i16 0, .int .i16 0]) ?_ 0 _ rfl; (with_reducible repeat (first | refine blk_drewN ?_ _ | refine blk_drew ?_ | refine blk_alloc ?_ _)); exact BK200.out) Try.underlying33 rfl (by kernel_rfl)) rfl ?_
   exact ⟨zs, zb1 HB.out GE200.out⟩
 replace c9 := Bool.eq_false_iff.mpr c9
 subst c9
 have H1 : (some (0, 0, 0, false)) = some (r1, r2, r3, r4) := by rw [if_neg (show ¬ (false = true) by decide)] at H; exact H
 clear H
 have H := H1
 clear H1
 simp only [Option.some.injEq, Prod.mk.injEq] at H
 obtain ⟨rfl, rfl, rfl, rfl⟩ := H
 go_enter Try.func34, Try.ntmps34
 go_wp2_with (first | ((with_reducible refine gate_dst (N := 6) rfl ?_); refine box_event ?hg (N := 6) ?hd (cs := #[.int .i16 0, .int .i16 0, .int .i16 0]) (t := 33) ?hr ?_; (case hd => rfl); (case hg => rfl); (case hr => first | (go_simp; done) | (go_simp; rfl)); intro gb200 hg w12 hbox hb; refine up4 (below_step (zb HB.out) hb) (hbox) ((by rw [hg]; exact (below_size (zb HB.out)) : w.heap.size ≤ gb200)) ((by rw [hg]; exact (below_size (zb HB.out)) : w.heap.size ≤ gb200)) ?_; clear HB; intro HB BK200 GW200 GE200; clear hb hbox hg) | ((with_reducible refine gate_callee (f := 45) rfl ?_); refine goesL_ (some 9) rfl rfl Try.func45 (by kernel_rfl) rfl #[.int .i64 a0, .int .i64 1, .int .i64 5000] rfl zr ?_; (with_reducible refine (impl_within.calls a0 1 5000 true _ A4.out).mono ?_); rintro e w' ⟨rfl, ⟨nd, rfl⟩⟩; refine ⟨_, rfl, ?_⟩; (try (rw [drewN_self w12]; generalize hq_ : World.drewN w12 _ = w12; refine up2 (show w12.heap[gb200]? = some (.cells #[.int .i16 0, .int .i16 0, .int .i16 0] 33 (0, 0)) from by rw [← hq_]; exact (zq BK200.out)) (show Below w.heap.size w w12 from by rw [← hq_]; exact (zb1 HB.out GE200.out)) ?_; clear BK200 HB hq_; intro BK200 HB))) | (go_at_call 45; (with_reducible refine (impl_within.calls a1 (-2000) 2000 true _ A6.out).mono ?_); rintro e w' ⟨rfl, ⟨nd, rfl⟩⟩; (try (rw [drewN_self w12]; generalize hq_ : World.drewN w12 _ = w12; refine up2 (show w12.heap[gb200]? = some (.cells #[.int .i16 0, .int .i16 0, .int .i16 0] 33 (0, 0)) from by rw [← hq_]; exact (zq BK200.out)) (show Below w.heap.size w w12 from by rw [← hq_]; exact (zb1 HB.out GE200.out)) ?_; clear BK200 HB hq_; intro BK200 HB))) | (go_at_call 45; (with_reducible refine (impl_within.calls a2 1 2000 false _ A8.out).mono ?_); rintro e w' ⟨rfl, ⟨nd, rfl⟩⟩; (try (rw [drewN_self w12]; generalize hq_ : World.drewN w12 _ = w12; refine up2 (show w12.heap[gb200]? = some (.cells #[.int .i16 0, .int .i16 0, .int .i16 0] 33 (0, 0)) from by rw [← hq_]; exact (zq BK200.out)) (show Below w.heap.size w w12 from by rw [← hq_]; exact (zb1 HB.out GE200.out)) ?_; clear BK200 HB hq_; intro BK200 HB)); have hcz13_0 : w12.cell? ⟨gb200, 0, none⟩ = some (.int .i16 0) := (blk_cell BK200.out 0).trans rfl; have hcz13_1 : w12.cell? ⟨gb200, 1, none⟩ = some (.int .i16 0) := (blk_cell BK200.out 1).trans rfl; have hcz13_2 : w12.cell? ⟨gb200, 2, none⟩ = some (.int .i16 0) := (blk_cell BK200.out 2).trans rfl; have hfz13_0 := blk_frozen BK200.out 0; have hfz13_1 := blk_frozen BK200.out 1; have hfz13_2 := blk_frozen BK200.out 2))
 refine bodyPost_ret (results_ct rfl _ _ gb200 33 #[.int .i16 0, .int .i16 0, .int .i16 0] (0, 0) _ rfl (by (with_reducible repeat (first | refine blk_drewN ?_ _ | refine blk_drew ?_ | refine blk_alloc ?_ _)); refine blk_put (cs := #[.int .i16 0, .int .i16 0, .int .i16 0]) ?_ 2 _ rfl; (with_reducible repeat (first | refine blk_drewN ?_ _ | refine blk_drew ?_ | refine blk_alloc ?_ _)); refine blk_put (cs := #[.int .i16 0, .int .i16 0, .int .i16 0]) ?_ 1 _ rfl; (with_reducible repeat (first | refine blk_drewN ?_ _ | refine blk_drew ?_ | refine blk_alloc ?_ _)); refine blk_put (cs := #[.int .i16 0, .int .i16 0, .int .i16 0]) ?_ 0 _ rfl; (with_reducible repeat (first | refine blk_drewN ?_ _ | refine blk_drew ?_ | refine blk_alloc ?_ _)); exact BK200.out) Try.underlying33 rfl (by kernel_rfl)) rfl ?_
 exact ⟨zs, zb1 HB.out GE200.out⟩

/-! ### impl_PlyYarns: function 13 -/
def impl_PlyYarns.f (k : Nat) (l0 : List (S33)) (a1 : Int) : Option (Int × Int × Int × Int) := (impl_PlyLong.f k l0 a1).bind fun bt205 => (if bt205.2 = 0 then ((impl_sums.f k l0).bind fun bt207 => ((impl_makeYarn.f bt205.1 a1 bt207.2.2).bind fun bt210 => (if bt210.2.2.2 = true then (some (bt210.1, bt210.2.1, bt210.2.2.1, 0)) else (some (0, 0, 0, 4))))) else (some (0, 0, 0, bt205.2)))
theorem impl_PlyYarns.mono : ∀ a0 a1 k, LeO (impl_PlyYarns.f k a0 a1) (impl_PlyYarns.f (k + 1) a0 a1) := by
  intro a0 a1 k
  unfold impl_PlyYarns.f
  repeat' first
      | (with_reducible exact impl_PlyLong.mono _ _ _)
      | (with_reducible exact impl_sums.mono _ _)
      | (with_reducible exact LeO.refl _)
      | (with_reducible exact LeO.none _)
      | (with_reducible refine LeO.ite ?_ ?_)
      | (with_reducible refine LeO.bind ?_ (fun _ => ?_))
      | (with_reducible refine allG_mono _ (fun _ => ?_))
      | (with_reducible refine idxG_mono _ (fun _ => ?_))
      | exact impl_PlyLong.mono _ _ _
      | exact impl_sums.mono _ _
      | exact LeO.none _
      | refine LeO.ite ?_ ?_
      | refine LeO.bind ?_ (fun _ => ?_)
set_option maxHeartbeats 8000000 in
set_option maxRecDepth 100000 in
theorem impl_PlyYarns.calls (k : Nat) (A0 : Option Addr) (c0 : Nat) (l0 : List (S33)) (a1 : Int) (r1 : Int) (r2 : Int) (r3 : Int) (r4 : Int) (w : World) (hr0 : Kd.C k33 w A0 l0.length l0) (hc0 : l0.length ≤ c0) (h : impl_PlyYarns.f k l0 a1 = some (r1, r2, r3, r4)) :
    Calls Try.prog 13 #[.slice A0 l0.length c0, .int .i64 a1] w fun e w' => e = .returned (.tuple #[.agg #[.int .i16 r1, .int .i16 r2, .int .i16 r3], .int .i64 r4]) ∧ Below w.heap.size w w' := by
 have hu33 := Try.underlying33
 have HR0 := Aside0.mk hr0
 have HC0 := Aside0.mk hc0
 clear hr0 hc0
 have HB := Aside0.mk (Below.refl w.heap.size w)
 have H : ((impl_PlyLong.f k l0 a1).bind fun bt205 => (if bt205.2 = 0 then ((impl_sums.f k l0).bind fun bt207 => ((impl_makeYarn.f bt205.1 a1 bt207.2.2).bind fun bt210 => (if bt210.2.2.2 = true then (some (bt210.1, bt210.2.1, bt210.2.2.1, 0)) else (some (0, 0, 0, 4))))) else (some (0, 0, 0, bt205.2)))) = some (r1, r2, r3, r4) := h
 clear h
 replace H := Option.bind_eq_some_iff.mp H
 obtain ⟨⟨t205, t206⟩, A30, H⟩ := H
 replace H : (if t206 = 0 then ((impl_sums.f k l0).bind fun bt207 => ((impl_makeYarn.f t205 a1 bt207.2.2).bind fun bt210 => (if bt210.2.2.2 = true then (some (bt210.1, bt210.2.1, bt210.2.2.1, 0)) else (some (0, 0, 0, 4))))) else (some (0, 0, 0, t206))) = some (r1, r2, r3, r4) := H
 have A3 := Aside0.mk A30
 clear A30
 by_cases c4 : t206 = 0
 rotate_left
 · rw [if_neg c4] at H
   have c4b0 : (t206 == 0) = false := beq_eq_false_iff_ne.mpr c4
   have c4b1 : (t206 != 0) = true := bne_iff_ne.mpr c4
   simp only [Option.some.injEq, Prod.mk.injEq] at H
   obtain ⟨rfl, rfl, rfl, rfl⟩ := H
   go_enter Try.func13, Try.ntmps13
   go_wp2_with (first | ((with_reducible refine gate_dst (N := 4) rfl ?_); refine box_event ?hg (N := 4) ?hd (cs := #[.int .i16 0, .int .i16 0, .int .i16 0]) (t := 33) ?hr ?_; (case hd => rfl); (case hg => rfl); (case hr => first | (go_simp; done) | (go_simp; rfl)); intro gb204 hg w24 hbox hb; refine up4 (below_step (zb HB.out) hb) (hbox) ((by rw [hg]; exact (below_size (zb HB.out)) : w.heap.size ≤ gb204)) ((by rw [hg]; exact (below_size (zb HB.out)) : w.heap.size ≤ gb204)) ?_; clear HB; intro HB BK204 GW204 GE204; clear hb hbox hg) | ((with_reducible refine gate_callee (f := 11) rfl ?_); refine goesL_ (some 16) rfl rfl Try.func11 (by kernel_rfl) rfl #[.slice A0 l0.length c0, .int .i64 a1] rfl zr ?_; (with_reducible refine (impl_PlyLong.calls k _ _ l0 a1 t205 t206 _ ?side1 ?side2 A3.out).mono ?_); (case side1 => exact zk (Kd.C_below HR0.out HB.out)); (case side2 => exact HC0.out); rintro e w25 ⟨rfl, hb⟩; refine ⟨_, rfl, ?_⟩; refine up2 (blk_below (g := gb204) (o := .cells #[.int .i16 0, .int .i16 0, .int .i16 0] 33 (0, 0)) (zq BK204.out) hb) (below_step (zb1 HB.out GE204.out) hb) ?_; clear BK204 HB; intro BK204 HB; (try clear hb); (try clear hb2); (try clear hk); (try clear hi); have hcz26_0 : w25.cell? ⟨gb204, 0, none⟩ = some (.int .i16 0) := (blk_cell BK204.out 0).trans rfl; have hcz26_1 : w25.cell? ⟨gb204, 1, none⟩ = some (.int .i16 0) := (blk_cell BK204.out 1).trans rfl; have hcz26_2 : w25.cell? ⟨gb204, 2, none⟩ = some (.int .i16 0) := (blk_cell BK204.out 2).trans rfl; have hfz26_0 := blk_frozen BK204.out 0; have hfz26_1 := blk_frozen BK204.out 1; have hfz26_2 := blk_frozen BK204.out 2))
   refine bodyPost_ret (results_ct rfl _ _ gb204 33 #[.int .i16 0, .int .i16 0, .int .i16 0] (0, 0) _ rfl (by (with_reducible repeat (first | refine blk_drewN ?_ _ | refine blk_drew ?_ | refine blk_alloc ?_ _)); refine blk_put (cs := #[.int .i16 0, .int .i16 0, .int .i16 0]) ?_ 2 _ rfl; (with_reducible repeat (first | refine blk_drewN ?_ _ | refine blk_drew ?_ | refine blk_alloc ?_ _)); refine blk_put (cs := #[.int .i16 0, .int .i16 0, .int .i16 0]) ?_ 1 _ rfl; (with_reducible repeat (first | refine blk_drewN ?_ _ | refine blk_drew ?_ | refine blk_alloc ?_ _)); refine blk_put (cs := #[.int .i16 0, .int .i16 0, .int .i16 0]) ?_ 0 _ rfl; (with_reducible repeat (first | refine blk_drewN ?_ _ | refine blk_drew ?_ | refine blk_alloc ?_ _)); exact BK204.out) Try.underlying33 rfl (by kernel_rfl)) rfl ?_
   exact ⟨zs, zb1 HB.out GE204.out⟩
 rw [if_pos c4] at H
 have c4b0 : (t206 == 0) = true := beq_iff_eq.mpr c4
 have c4b1 : (t206 != 0) = false := bne_eq_false_iff_eq.mpr c4
 clear c4
 replace H := Option.bind_eq_some_iff.mp H
 obtain ⟨⟨t207, t208, t209⟩, A50, H⟩ := H
 replace H : ((impl_makeYarn.f t205 a1 t209).bind fun bt210 => (if bt210.2.2.2 = true then (some (bt210.1, bt210.2.1, bt210.2.2.1, 0)) else (some (0, 0, 0, 4)))) = some (r1, r2, r3, r4) := H
 have A5 := Aside0.mk A50
 clear A50
 replace H := Option.bind_eq_some_iff.mp H
 obtain ⟨⟨t210, t211, t212, t213⟩, A60, H⟩ := H
 replace H : (if t213 = true then (some (t210, t211, t212, 0)) else (some (0, 0, 0, 4))) = some (r1, r2, r3, r4) := H
 have A6 := Aside0.mk A60
 clear A60
 by_cases c7 : t213 = true
 · subst c7
   have H1 : (some (t210, t211, t212, 0)) = some (r1, r2, r3, r4) := by rw [if_pos rfl] at H; exact H
   clear H
   have H := H1
   clear H1
   simp only [Option.some.injEq, Prod.mk.injEq] at H
   obtain ⟨rfl, rfl, rfl, rfl⟩ := H
   go_enter Try.func13, Try.ntmps13
   go_wp2_with (first | ((with_reducible refine gate_dst (N := 4) rfl ?_); refine box_event ?hg (N := 4) ?hd (cs := #[.int .i16 0, .int .i16 0, .int .i16 0]) (t := 33) ?hr ?_; (case hd => rfl); (case hg => rfl); (case hr => first | (go_simp; done) | (go_simp; rfl)); intro gb204 hg w8 hbox hb; refine up4 (below_step (zb HB.out) hb) (hbox) ((by rw [hg]; exact (below_size (zb HB.out)) : w.heap.size ≤ gb204)) ((by rw [hg]; exact (below_size (zb HB.out)) : w.heap.size ≤ gb204)) ?_; clear HB; intro HB BK204 GW204 GE204; clear hb hbox hg) | ((with_reducible refine gate_callee (f := 11) rfl ?_); refine goesL_ (some 16) rfl rfl Try.func11 (by kernel_rfl) rfl #[.slice A0 l0.length c0, .int .i64 a1] rfl zr ?_; (with_reducible refine (impl_PlyLong.calls k _ _ l0 a1 t205 t206 _ ?side1 ?side2 A3.out).mono ?_); (case side1 => exact zk (Kd.C_below HR0.out HB.out)); (case side2 => exact HC0.out); rintro e w9 ⟨rfl, hb⟩; refine ⟨_, rfl, ?_⟩; refine up2 (blk_below (g := gb204) (o := .cells #[.int .i16 0, .int .i16 0, .int .i16 0] 33 (0, 0)) (zq BK204.out) hb) (below_step (zb1 HB.out GE204.out) hb) ?_; clear BK204 HB; intro BK204 HB; (try clear hb); (try clear hb2); (try clear hk); (try clear hi)) | ((with_reducible refine gate_callee (f := 33) rfl ?_); refine goesL_ (some 25) rfl rfl Try.func33 (by kernel_rfl) rfl #[.slice A0 l0.length c0] rfl zr ?_; (with_reducible refine (impl_sums.calls k _ _ l0 t207 t208 t209 _ ?side1 ?side2 A5.out).mono ?_); (case side1 => exact zk (Kd.C_below HR0.out HB.out)); (case side2 => exact HC0.out); rintro e w10 ⟨rfl, hb⟩; refine ⟨_, rfl, ?_⟩; refine up2 (blk_below (g := gb204) (o := .cells #[.int .i16 0, .int .i16 0, .int .i16 0] 33 (0, 0)) (zq BK204.out) hb) (below_step (zb1 HB.out GE204.out) hb) ?_; clear BK204 HB; intro BK204 HB; (try clear hb); (try clear hb2); (try clear hk); (try clear hi)) | ((with_reducible refine gate_callee (f := 34) rfl ?_); refine goesL_ (some 33) rfl rfl Try.func34 (by kernel_rfl) rfl #[.int .i64 t205, .int .i64 a1, .int .i64 t209] rfl zr ?_; (with_reducible refine (impl_makeYarn.calls t205 a1 t209 t210 t211 t212 true _ A6.out).mono ?_); rintro e w11 ⟨rfl, hb⟩; refine ⟨_, rfl, ?_⟩; refine up2 (blk_below (g := gb204) (o := .cells #[.int .i16 0, .int .i16 0, .int .i16 0] 33 (0, 0)) (zq BK204.out) hb) (below_step (zb1 HB.out GE204.out) hb) ?_; clear BK204 HB; intro BK204 HB; (try clear hb); (try clear hb2); (try clear hk); (try clear hi)) | ((with_reducible refine gate_dst (N := 11) rfl ?_); refine box_event ?hg (N := 11) ?hd (cs := #[.int .i16 0, .int .i16 0, .int .i16 0]) (t := 33) ?hr ?_; (case hd => rfl); (case hg => rfl); (case hr => first | (go_simp; done) | (go_simp; rfl)); intro gb214 hg w12 hbox hb; refine up7 (blk_below (g := gb204) (o := .cells #[.int .i16 0, .int .i16 0, .int .i16 0] 33 (0, 0)) (zq BK204.out) hb) (below_step (zb1 HB.out GE204.out) hb) (hbox) ((by rw [hg]; exact (below_size (zb1 HB.out GE204.out)) : w.heap.size ≤ gb214)) ((by rw [hg]; exact (below_size (zb1 HB.out GE204.out)) : w.heap.size ≤ gb214)) ((by rw [hg]; exact Nat.ne_of_lt (blk_lt (g := gb204) (o := .cells #[.int .i16 0, .int .i16 0, .int .i16 0] 33 (0, 0)) (zq BK204.out)) : gb204 ≠ gb214)) ((by rw [hg]; exact Nat.ne_of_gt (blk_lt (g := gb204) (o := .cells #[.int .i16 0, .int .i16 0, .int .i16 0] 33 (0, 0)) (zq BK204.out)) : gb214 ≠ gb204)) ?_; clear BK204 HB; intro BK204 HB BK214 GW214 GE214 NB204_214 NB214_204; clear hb hbox hg; have hnb13 := NB214_204.out; have hnc13 := NB204_214.out; have hcz14_0 : w12.cell? ⟨gb214, 0, none⟩ = some (.int .i16 0) := (blk_cell BK214.out 0).trans rfl; have hcz14_1 : w12.cell? ⟨gb214, 1, none⟩ = some (.int .i16 0) := (blk_cell BK214.out 1).trans rfl; have hcz14_2 : w12.cell? ⟨gb214, 2, none⟩ = some (.int .i16 0) := (blk_cell BK214.out 2).trans rfl; have hfz14_0 := blk_frozen BK214.out 0; have hfz14_1 := blk_frozen BK214.out 1; have hfz14_2 := blk_frozen BK214.out 2; have hcz15_0 : w12.cell? ⟨gb204, 0, none⟩ = some (.int .i16 0) := (blk_cell BK204.out 0).trans rfl; have hcz15_1 : w12.cell? ⟨gb204, 1, none⟩ = some (.int .i16 0) := (blk_cell BK204.out 1).trans rfl; have hcz15_2 : w12.cell? ⟨gb204, 2, none⟩ = some (.int .i16 0) := (blk_cell BK204.out 2).trans rfl; have hfz15_0 := blk_frozen BK204.out 0; have hfz15_1 := blk_frozen BK204.out 1; have hfz15_2 := blk_frozen BK204.out 2))
   refine bodyPost_ret (results_ct rfl _ _ gb204 33 #[.int .i16 t210, .int .i16 t211, .int .i16 t212] (0, 0) _ rfl (by (with_reducible repeat (first | refine blk_drewN ?_ _ | refine blk_drew ?_ | refine blk_alloc ?_ _)); refine blk_put (cs := #[.int .i16 t210, .int .i16 t211, .int .i16 0]) ?_ 2 _ rfl; (with_reducible repeat (first | refine blk_drewN ?_ _ | refine blk_drew ?_ | refine blk_alloc ?_ _)); refine blk_put (cs := #[.int .i16 t210, .int .i16 0, .int .i16 0]) ?_ 1 _ rfl; (with_reducible repeat (first | refine blk_drewN ?_ _ | refine blk_drew ?_ | refine blk_alloc ?_ _)); refine blk_put (cs := #[.int .i16 0, .int .i16 0, .int .i16 0]) ?_ 0 _ rfl; (with_reducible repeat (first | refine blk_drewN ?_ _ | refine blk_drew ?_ | refine blk_alloc ?_ _)); refine blk_far ?_ NB204_214.out _; (with_reducible repeat (first | refine blk_drewN ?_ _ | refine blk_drew ?_ | refine blk_alloc ?_ _)); refine blk_far ?_ NB204_214.out _; (with_reducible repeat (first | refine blk_drewN ?_ _ | refine blk_drew ?_ | refine blk_alloc ?_ _)); refine blk_far ?_ NB204_214.out _; (with_reducible repeat (first | refine blk_drewN ?_ _ | refine blk_drew ?_ | refine blk_alloc ?_ _)); exact BK204.out) Try.underlying33 rfl (by kernel_rfl)) rfl ?_
   exact ⟨zs, zb2 HB.out GE204.out GE214.out⟩
 replace c7 := Bool.eq_false_iff.mpr c7
 subst c7
 have H1 : (some (0, 0, 0, 4)) = some (r1, r2, r3, r4) := by rw [if_neg (show ¬ (false = true) by decide)] at H; exact H
 clear H
 have H := H1
 clear H1
 simp only [Option.some.injEq, Prod.mk.injEq] at H
 obtain ⟨rfl, rfl, rfl, rfl⟩ := H
 go_enter Try.func13, Try.ntmps13
 go_wp2_with (first | ((with_reducible refine gate_dst (N := 4) rfl ?_); refine box_event ?hg (N := 4) ?hd (cs := #[.int .i16 0, .int .i16 0, .int .i16 0]) (t := 33) ?hr ?_; (case hd => rfl); (case hg => rfl); (case hr => first | (go_simp; done) | (go_simp; rfl)); intro gb204 hg w16 hbox hb; refine up4 (below_step (zb HB.out) hb) (hbox) ((by rw [hg]; exact (below_size (zb HB.out)) : w.heap.size ≤ gb204)) ((by rw [hg]; exact (below_size (zb HB.out)) : w.heap.size ≤ gb204)) ?_; clear HB; intro HB BK204 GW204 GE204; clear hb hbox hg) | ((with_reducible refine gate_callee (f := 11) rfl ?_); refine goesL_ (some 16) rfl rfl Try.func11 (by kernel_rfl) rfl #[.slice A0 l0.length c0, .int .i64 a1] rfl zr ?_; (with_reducible refine (impl_PlyLong.calls k _ _ l0 a1 t205 t206 _ ?side1 ?side2 A3.out).mono ?_); (case side1 => exact zk (Kd.C_below HR0.out HB.out)); (case side2 => exact HC0.out); rintro e w17 ⟨rfl, hb⟩; refine ⟨_, rfl, ?_⟩; refine up2 (blk_below (g := gb204) (o := .cells #[.int .i16 0, .int .i16 0, .int .i16 0] 33 (0, 0)) (zq BK204.out) hb) (below_step (zb1 HB.out GE204.out) hb) ?_; clear BK204 HB; intro BK204 HB; (try clear hb); (try clear hb2); (try clear hk); (try clear hi)) | ((with_reducible refine gate_callee (f := 33) rfl ?_); refine goesL_ (some 25) rfl rfl Try.func33 (by kernel_rfl) rfl #[.slice A0 l0.length c0] rfl zr ?_; (with_reducible refine (impl_sums.calls k _ _ l0 t207 t208 t209 _ ?side1 ?side2 A5.out).mono ?_); (case side1 => exact zk (Kd.C_below HR0.out HB.out)); (case side2 => exact HC0.out); rintro e w18 ⟨rfl, hb⟩; refine ⟨_, rfl, ?_⟩; refine up2 (blk_below (g := gb204) (o := .cells #[.int .i16 0, .int .i16 0, .int .i16 0] 33 (0, 0)) (zq BK204.out) hb) (below_step (zb1 HB.out GE204.out) hb) ?_; clear BK204 HB; intro BK204 HB; (try clear hb); (try clear hb2); (try clear hk); (try clear hi)) | ((with_reducible refine gate_callee (f := 34) rfl ?_); refine goesL_ (some 33) rfl rfl Try.func34 (by kernel_rfl) rfl #[.int .i64 t205, .int .i64 a1, .int .i64 t209] rfl zr ?_; (with_reducible refine (impl_makeYarn.calls t205 a1 t209 t210 t211 t212 false _ A6.out).mono ?_); rintro e w19 ⟨rfl, hb⟩; refine ⟨_, rfl, ?_⟩; refine up2 (blk_below (g := gb204) (o := .cells #[.int .i16 0, .int .i16 0, .int .i16 0] 33 (0, 0)) (zq BK204.out) hb) (below_step (zb1 HB.out GE204.out) hb) ?_; clear BK204 HB; intro BK204 HB; (try clear hb); (try clear hb2); (try clear hk); (try clear hi)) | ((with_reducible refine gate_dst (N := 11) rfl ?_); refine box_event ?hg (N := 11) ?hd (cs := #[.int .i16 0, .int .i16 0, .int .i16 0]) (t := 33) ?hr ?_; (case hd => rfl); (case hg => rfl); (case hr => first | (go_simp; done) | (go_simp; rfl)); intro gb214 hg w20 hbox hb; refine up7 (blk_below (g := gb204) (o := .cells #[.int .i16 0, .int .i16 0, .int .i16 0] 33 (0, 0)) (zq BK204.out) hb) (below_step (zb1 HB.out GE204.out) hb) (hbox) ((by rw [hg]; exact (below_size (zb1 HB.out GE204.out)) : w.heap.size ≤ gb214)) ((by rw [hg]; exact (below_size (zb1 HB.out GE204.out)) : w.heap.size ≤ gb214)) ((by rw [hg]; exact Nat.ne_of_lt (blk_lt (g := gb204) (o := .cells #[.int .i16 0, .int .i16 0, .int .i16 0] 33 (0, 0)) (zq BK204.out)) : gb204 ≠ gb214)) ((by rw [hg]; exact Nat.ne_of_gt (blk_lt (g := gb204) (o := .cells #[.int .i16 0, .int .i16 0, .int .i16 0] 33 (0, 0)) (zq BK204.out)) : gb214 ≠ gb204)) ?_; clear BK204 HB; intro BK204 HB BK214 GW214 GE214 NB204_214 NB214_204; clear hb hbox hg; have hnb21 := NB214_204.out; have hnc21 := NB204_214.out; have hcz22_0 : w20.cell? ⟨gb214, 0, none⟩ = some (.int .i16 0) := (blk_cell BK214.out 0).trans rfl; have hcz22_1 : w20.cell? ⟨gb214, 1, none⟩ = some (.int .i16 0) := (blk_cell BK214.out 1).trans rfl; have hcz22_2 : w20.cell? ⟨gb214, 2, none⟩ = some (.int .i16 0) := (blk_cell BK214.out 2).trans rfl; have hfz22_0 := blk_frozen BK214.out 0; have hfz22_1 := blk_frozen BK214.out 1; have hfz22_2 := blk_frozen BK214.out 2; have hcz23_0 : w20.cell? ⟨gb204, 0, none⟩ = some (.int .i16 0) := (blk_cell BK204.out 0).trans rfl; have hcz23_1 : w20.cell? ⟨gb204, 1, none⟩ = some (.int .i16 0) := (blk_cell BK204.out 1).trans rfl; have hcz23_2 : w20.cell? ⟨gb204, 2, none⟩ = some (.int .i16 0) := (blk_cell BK204.out 2).trans rfl; have hfz23_0 := blk_frozen BK204.out 0; have hfz23_1 := blk_frozen BK204.out 1; have hfz23_2 := blk_frozen BK204.out 2))
 refine bodyPost_ret (results_ct rfl _ _ gb204 33 #[.int .i16 0, .int .i16 0, .int .i16 0] (0, 0) _ rfl (by (with_reducible repeat (first | refine blk_drewN ?_ _ | refine blk_drew ?_ | refine blk_alloc ?_ _)); refine blk_put (cs := #[.int .i16 0, .int .i16 0, .int .i16 0]) ?_ 2 _ rfl; (with_reducible repeat (first | refine blk_drewN ?_ _ | refine blk_drew ?_ | refine blk_alloc ?_ _)); refine blk_put (cs := #[.int .i16 0, .int .i16 0, .int .i16 0]) ?_ 1 _ rfl; (with_reducible repeat (first | refine blk_drewN ?_ _ | refine blk_drew ?_ | refine blk_alloc ?_ _)); refine blk_put (cs := #[.int .i16 0, .int .i16 0, .int .i16 0]) ?_ 0 _ rfl; (with_reducible repeat (first | refine blk_drewN ?_ _ | refine blk_drew ?_ | refine blk_alloc ?_ _)); refine blk_far ?_ NB204_214.out _; (with_reducible repeat (first | refine blk_drewN ?_ _ | refine blk_drew ?_ | refine blk_alloc ?_ _)); refine blk_far ?_ NB204_214.out _; (with_reducible repeat (first | refine blk_drewN ?_ _ | refine blk_drew ?_ | refine blk_alloc ?_ _)); refine blk_far ?_ NB204_214.out _; (with_reducible repeat (first | refine blk_drewN ?_ _ | refine blk_drew ?_ | refine blk_alloc ?_ _)); exact BK204.out) Try.underlying33 rfl (by kernel_rfl)) rfl ?_
 exact ⟨zs, zb2 HB.out GE204.out GE214.out⟩

/-! ### spec_l03Make: function 35 -/
def spec_l03Make.f (a0 : Int) (a1 : Int) (a2 : Int) : Option (Int × Int × Int × Bool) := (spec_l00In.f a0 1 5000).bind fun t216 => (if t216 = true then ((spec_l00In.f a1 (-2000) 2000).bind fun t217 => (if t217 = true then ((spec_l00In.f a2 1 2000).bind fun t218 => (if t218 = true then (some (IntKind.i16.wrap (a0), IntKind.i16.wrap (a1), IntKind.i16.wrap (a2), true)) else (some (0, 0, 0, false)))) else (some (0, 0, 0, false)))) else (some (0, 0, 0, false)))
set_option maxHeartbeats 8000000 in
set_option maxRecDepth 100000 in
theorem spec_l03Make.calls (a0 : Int) (a1 : Int) (a2 : Int) (r1 : Int) (r2 : Int) (r3 : Int) (r4 : Bool) (w : World) (h : spec_l03Make.f a0 a1 a2 = some (r1, r2, r3, r4)) :
    Calls Try.prog 35 #[.int .i64 a0, .int .i64 a1, .int .i64 a2] w fun e w' => e = .returned (.tuple #[.agg #[.int .i16 r1, .int .i16 r2, .int .i16 r3], .bool r4]) ∧ Below w.heap.size w w' := by
 have hu33 := Try.underlying33
 have HB := Aside0.mk (Below.refl w.heap.size w)
 have H : ((spec_l00In.f a0 1 5000).bind fun t216 => (if t216 = true then ((spec_l00In.f a1 (-2000) 2000).bind fun t217 => (if t217 = true then ((spec_l00In.f a2 1 2000).bind fun t218 => (if t218 = true then (some (IntKind.i16.wrap (a0), IntKind.i16.wrap (a1), IntKind.i16.wrap (a2), true)) else (some (0, 0, 0, false)))) else (some (0, 0, 0, false)))) else (some (0, 0, 0, false)))) = some (r1, r2, r3, r4) := h
 clear h
 replace H := Option.bind_eq_some_iff.mp H
 obtain ⟨t216, A40, H⟩ := H
 replace H : (if t216 = true then ((spec_l00In.f a1 (-2000) 2000).bind fun t217 => (if t217 = true then ((spec_l00In.f a2 1 2000).bind fun t218 => (if t218 = true then (some (IntKind.i16.wrap (a0), IntKind.i16.wrap (a1), IntKind.i16.wrap (a2), true)) else (some (0, 0, 0, false)))) else (some (0, 0, 0, false)))) else (some (0, 0, 0, false))) = some (r1, r2, r3, r4) := H
 have A4 := Aside0.mk A40
 clear A40
 by_cases c5 : t216 = true
 rotate_left
 · replace c5 := Bool.eq_false_iff.mpr c5
   subst c5
   have H1 : (some (0, 0, 0, false)) = some (r1, r2, r3, r4) := by rw [if_neg (show ¬ (false = true) by decide)] at H; exact H
   clear H
   have H := H1
   clear H1
   simp only [Option.some.injEq, Prod.mk.injEq] at H
   obtain ⟨rfl, rfl, rfl, rfl⟩ := H
   go_enter Try.func35, Try.ntmps35
   go_wp2_with (first | ((with_reducible refine gate_dst (N := 6) rfl ?_); refine box_event ?hg (N := 6) ?hd (cs := #[.int .i16 0, .int .i16 0, .int .i16 0]) (t := 33) ?hr ?_; (case hd => rfl); (case hg => rfl); (case hr => first | (go_simp; done) | (go_simp; rfl)); intro gb215 hg w16 hbox hb; refine up4 (below_step (zb HB.out) hb) (hbox) ((by rw [hg]; exact (below_size (zb HB.out)) : w.heap.size ≤ gb215)) ((by rw [hg]; exact (below_size (zb HB.out)) : w.heap.size ≤ gb215)) ?_; clear HB; intro HB BK215 GW215 GE215; clear hb hbox hg) | ((with_reducible refine gate_callee (f := 50) rfl ?_); refine goesL_ (some 9) rfl rfl Try.func50 (by kernel_rfl) rfl #[.int .i64 a0, .int .i64 1, .int .i64 5000] rfl zr ?_; (with_reducible refine (spec_l00In.calls a0 1 5000 false _ A4.out).mono ?_); rintro e w' ⟨rfl, ⟨nd, rfl⟩⟩; refine ⟨_, rfl, ?_⟩; (try (rw [drewN_self w16]; generalize hq_ : World.drewN w16 _ = w16; refine up2 (show w16.heap[gb215]? = some (.cells #[.int .i16 0, .int .i16 0, .int .i16 0] 33 (0, 0)) from by rw [← hq_]; exact (zq BK215.out)) (show Below w.heap.size w w16 from by rw [← hq_]; exact (zb1 HB.out GE215.out)) ?_; clear BK215 HB hq_; intro BK215 HB)); have hcz17_0 : w16.cell? ⟨gb215, 0, none⟩ = some (.int .i16 0) := (blk_cell BK215.out 0).trans rfl; have hcz17_1 : w16.cell? ⟨gb215, 1, none⟩ = some (.int .i16 0) := (blk_cell BK215.out 1).trans rfl; have hcz17_2 : w16.cell? ⟨gb215, 2, none⟩ = some (.int .i16 0) := (blk_cell BK215.out 2).trans rfl; have hfz17_0 := blk_frozen BK215.out 0; have hfz17_1 := blk_frozen BK215.out 1; have hfz17_2 := blk_frozen BK215.out 2))
   refine bodyPost_ret (results_ct rfl _ _ gb215 33 #[.int .i16 0, .int .i16 0, .int .i16 0] (0, 0) _ rfl (by (with_reducible repeat (first | refine blk_drewN ?_ _ | refine blk_drew ?_ | refine blk_alloc ?_ _)); refine blk_put (cs := #[.int .i16 0, .int .i16 0, .int .i16 0]) ?_ 2 _ rfl; (with_reducible repeat (first | refine blk_drewN ?_ _ | refine blk_drew ?_ | refine blk_alloc ?_ _)); refine blk_put (cs := #[.int .i16 0, .int .i16 0, .int .i16 0]) ?_ 1 _ rfl; (with_reducible repeat (first | refine blk_drewN ?_ _ | refine blk_drew ?_ | refine blk_alloc ?_ _)); refine blk_put (cs := #[.int .i16 0, .int .i16 0, .int .i16 0]) ?_ 0 _ rfl; (with_reducible repeat (first | refine blk_drewN ?_ _ | refine blk_drew ?_ | refine blk_alloc ?_ _)); exact BK215.out) Try.underlying33 rfl (by kernel_rfl)) rfl ?_
   exact ⟨zs, zb1 HB.out GE215.out⟩
 subst c5
 have H1 : ((spec_l00In.f a1 (-2000) 2000).bind fun t217 => (if t217 = true then ((spec_l00In.f a2 1 2000).bind fun t218 => (if t218 = true then (some (IntKind.i16.wrap (a0), IntKind.i16.wrap (a1), IntKind.i16.wrap (a2), true)) else (some (0, 0, 0, false)))) else (some (0, 0, 0, false)))) = some (r1, r2, r3, r4) := by rw [if_pos rfl] at H; exact H
 clear H
 have H := H1
 clear H1
 replace H := Option.bind_eq_some_iff.mp H
 obtain ⟨t217, A60, H⟩ := H
 replace H : (if t217 = true then ((spec_l00In.f a2 1 2000).bind fun t218 => (if t218 = true then (some (IntKind.i16.wrap (a0), IntKind.i16.wrap (a1), IntKind.i16.wrap (a2), true)) else (some (0, 0, 0, false)))) else (some (0, 0, 0, false))) = some (r1, r2, r3, r4) := H
 have A6 := Aside0.mk A60
 clear A60
 by_cases c7 : t217 = true
 rotate_left
 · replace c7 := Bool.eq_false_iff.mpr c7
   subst c7
   have H1 : (some (0, 0, 0, false)) = some (r1, r2, r3, r4) := by rw [if_neg (show ¬ (false = true) by decide)] at H; exact H
   clear H
   have H := H1
   clear H1
   simp only [Option.some.injEq, Prod.mk.injEq] at H
   obtain ⟨rfl, rfl, rfl, rfl⟩ := H
   go_enter Try.func35, Try.ntmps35
   go_wp2_with (first | ((with_reducible refine gate_dst (N := 6) rfl ?_); refine box_event ?hg (N := 6) ?hd (cs := #[.int .i16 0, .int .i16 0, .int .i16 0]) (t := 33) ?hr ?_; (case hd => rfl); (case hg => rfl); (case hr => first | (go_simp; done) | (go_simp; rfl)); intro gb215 hg w14 hbox hb; refine up4 (below_step (zb HB.out) hb) (hbox) ((by rw [hg]; exact (below_size (zb HB.out)) : w.heap.size ≤ gb215)) ((by rw [hg]; exact (below_size (zb HB.out)) : w.heap.size ≤ gb215)) ?_; clear HB; intro HB BK215 GW215 GE215; clear hb hbox hg) | ((with_reducible refine gate_callee (f := 50) rfl ?_); refine goesL_ (some 9) rfl rfl Try.func50 (by kernel_rfl) rfl #[.int .i64 a0, .int .i64 1, .int .i64 5000] rfl zr ?_; (with_reducible refine (spec_l00In.calls a0 1 5000 true _ A4.out).mono ?_); rintro e w' ⟨rfl, ⟨nd, rfl⟩⟩; refine ⟨_, rfl, ?_⟩; (try (rw [drewN_self w14]; generalize hq_ : World.drewN w14 _ = w14; refine up2 (show w14.heap[gb215]? = some (.cells #[.int .i16 0, .int .i16 0, .int .i16 0] 33 (0, 0)) from by rw [← hq_]; exact (zq BK215.out)) (show Below w.heap.size w w14 from by rw [← hq_]; exact (zb1 HB.out GE215.out)) ?_; clear BK215 HB hq_; intro BK215 HB))) | (go_at_call 50; (with_reducible refine (spec_l00In.calls a1 (-2000) 2000 false _ A6.out).mono ?_); rintro e w' ⟨rfl, ⟨nd, rfl⟩⟩; (try (rw [drewN_self w14]; generalize hq_ : World.drewN w14 _ = w14; refine up2 (show w14.heap[gb215]? = some (.cells #[.int .i16 0, .int .i16 0, .int .i16 0] 33 (0, 0)) from by rw [← hq_]; exact (zq BK215.out)) (show Below w.heap.size w w14 from by rw [← hq_]; exact (zb1 HB.out GE215.out)) ?_; clear BK215 HB hq_; intro BK215 HB)); have hcz15_0 : w14.cell? ⟨gb215, 0, none⟩ = some (.int .i16 0) := (blk_cell BK215.out 0).trans rfl; have hcz15_1 : w14.cell? ⟨gb215, 1, none⟩ = some (.int .i16 0) := (blk_cell BK215.out 1).trans rfl; have hcz15_2 : w14.cell? ⟨gb215, 2, none⟩ = some (.int .i16 0) := (blk_cell BK215.out 2).trans rfl; have hfz15_0 := blk_frozen BK215.out 0; have hfz15_1 := blk_frozen BK215.out 1; have hfz15_2 := blk_frozen BK215.out 2))
   refine bodyPost_ret (results_ct rfl _ _ gb215 33 #[.int .i16 0, .int .i16 0, .int .i16 0] (0, 0) _ rfl (by (with_reducible repeat (first | refine blk_drewN ?_ _ | refine blk_drew ?_ | refine blk_alloc ?_ _)); refine blk_put (cs := #[.int .i16 0, .int .i16 0, .int .i16 0]) ?_ 2 _ rfl; (with_reducible repeat (first | refine blk_drewN ?_ _ | refine blk_drew ?_ | refine blk_alloc ?_ _)); refine blk_put (cs := #[.int .i16 0, .int .i16 0, .int .i16 0]) ?_ 1 _ rfl; (with_reducible repeat (first | refine blk_drewN ?_ _ | refine blk_drew ?_ | refine blk_alloc ?_ _)); refine blk_put (cs := #[.int .i16 0, .int .i16 0, .int .i16 0]) ?_ 0 _ rfl; (with_reducible repeat (first | refine blk_drewN ?_ _ | refine blk_drew ?_ | refine blk_alloc ?_ _)); exact BK215.out) Try.underlying33 rfl (by kernel_rfl)) rfl ?_
   exact ⟨zs, zb1 HB.out GE215.out⟩
 subst c7
 have H1 : ((spec_l00In.f a2 1 2000).bind fun t218 => (if t218 = true then (some (IntKind.i16.wrap (a0), IntKind.i16.wrap (a1), IntKind.i16.wrap (a2), true)) else (some (0, 0, 0, false)))) = some (r1, r2, r3, r4) := by rw [if_pos rfl] at H; exact H
 clear H
 have H := H1
 clear H1
 replace H := Option.bind_eq_some_iff.mp H
 obtain ⟨t218, A80, H⟩ := H
 replace H : (if t218 = true then (some (IntKind.i16.wrap (a0), IntKind.i16.wrap (a1), IntKind.i16.wrap (a2), true)) else (some (0, 0, 0, false))) = some (r1, r2, r3, r4) := H
 have A8 := Aside0.mk A80
 clear A80
 by_cases c9 : t218 = true
 · subst c9
   have H1 : (some (IntKind.i16.wrap (a0), IntKind.i16.wrap (a1), IntKind.i16.wrap (a2), true)) = some (r1, r2, r3, r4) := by rw [if_pos rfl] at H; exact H
   clear H
   have H := H1
   clear H1
   simp only [Option.some.injEq, Prod.mk.injEq] at H
   obtain ⟨rfl, rfl, rfl, rfl⟩ := H
   go_enter Try.func35, Try.ntmps35
   go_wp2_with (first | ((with_reducible refine gate_dst (N := 6) rfl ?_); refine box_event ?hg (N := 6) ?hd (cs := #[.int .i16 0, .int .i16 0, .int .i16 0]) (t := 33) ?hr ?_; (case hd => rfl); (case hg => rfl); (case hr => first | (go_simp; done) | (go_simp; rfl)); intro gb215 hg w10 hbox hb; refine up4 (below_step (zb HB.out) hb) (hbox) ((by rw [hg]; exact (below_size (zb HB.out)) : w.heap.size ≤ gb215)) ((by rw [hg]; exact (below_size (zb HB.out)) : w.heap.size ≤ gb215)) ?_; clear HB; intro HB BK215 GW215 GE215; clear hb hbox hg) | ((with_reducible refine gate_callee (f := 50) rfl ?_); refine goesL_ (some 9) rfl rfl Try.func50 (by kernel_rfl) rfl #[.int .i64 a0, .int .i64 1, .int .i64 5000] rfl zr ?_; (with_reducible refine (spec_l00In.calls a0 1 5000 true _ A4.out).mono ?_); rintro e w' ⟨rfl, ⟨nd, rfl⟩⟩; refine ⟨_, rfl, ?_⟩; (try (rw [drewN_self w10]; generalize hq_ : World.drewN w10 _ = w10; refine up2 (show w10.heap[gb215]? = some (.cells #[.int .i16 0, .int .i16 0, .int .i16 0] 33 (0, 0)) from by rw [← hq_]; exact (zq BK215.out)) (show Below w.heap.size w w10 from by rw [← hq_]; exact (zb1 HB.out GE215.out)) ?_; clear BK215 HB hq_; intro BK215 HB))) | (go_at_call 50; (with_reducible refine (spec_l00In.calls a1 (-2000) 2000 true _ A6.out).mono ?_); rintro e w' ⟨rfl, ⟨nd, rfl⟩⟩; (try (rw [drewN_self w10]; generalize hq_ : World.drewN w10 _ = w10; refine up2 (show w10.heap[gb215]? = some (.cells #[.int .i16 0, .int .i16 0, .int .i16 0] 33 (0, 0)) from by rw [← hq_]; exact (zq BK215.out)) (show Below w.heap.size w w10 from by rw [← hq_]; exact (zb1 HB.out GE215.out)) ?_; clear BK215 HB hq_; intro BK215 HB))) | (go_at_call 50; (with_reducible refine (spec_l00In.calls a2 1 2000 true _ A8.out).mono ?_); rintro e w' ⟨rfl, ⟨nd, rfl⟩⟩; (try (rw [drewN_self w10]; generalize hq_ : World.drewN w10 _ = w10; refine up2 (show w10.heap[gb215]? = some (.cells #[.int .i16 0, .int .i16 0, .int .i16 0] 33 (0, 0)) from by rw [← hq_]; exact (zq BK215.out)) (show Below w.heap.size w w10 from by rw [← hq_]; exact (zb1 HB.out GE215.out)) ?_; clear BK215 HB hq_; intro BK215 HB)); have hcz11_0 : w10.cell? ⟨gb215, 0, none⟩ = some (.int .i16 0) := (blk_cell BK215.out 0).trans rfl; have hcz11_1 : w10.cell? ⟨gb215, 1, none⟩ = some (.int .i16 0) := (blk_cell BK215.out 1).trans rfl; have hcz11_2 : w10.cell? ⟨gb215, 2, none⟩ = some (.int .i16 0) := (blk_cell BK215.out 2).trans rfl; have hfz11_0 := blk_frozen BK215.out 0; have hfz11_1 := blk_frozen BK215.out 1; have hfz11_2 := blk_frozen BK215.out 2))
   refine bodyPost_ret (results_ct rfl _ _ gb215 33 #[.int .i16 (IntKind.i16.wrap (a0)), .int .i16 (IntKind.i16.wrap (a1)), .int .i16 (IntKind.i16.wrap (a2))] (0, 0) _ rfl (by (with_reducible repeat (first | refine blk_drewN ?_ _ | refine blk_drew ?_ | refine blk_alloc ?_ _)); refine blk_put (cs := #[.int .i16 (IntKind.i16.wrap (a0)), .int .i16 (IntKind.i16.wrap (a1)), .int .i16 0]) ?_ 2 _ rfl; (with_reducible repeat (first | refine blk_drewN ?_ _ | refine blk_drew ?_ | refine blk_alloc ?_ _)); refine blk_put (cs := #[.int .i16 (IntKind.i16.wrap (a0)), .int .i16 0, .int .i16 0]) ?_ 1 _ rfl; (with_reducible repeat (first | refine blk_drewN ?_ _ | refine blk_drew ?_ | refine blk_alloc ?_ _)); refine blk_put (cs := #[.int .i16 0, .int .i16 0, .int .i16 0]) ?_ 0 _ rfl; (with_reducible repeat (first | refine blk_drewN ?_ _ | refine blk_drew ?_ | refine blk_alloc ?_ _)); exact BK215.out) Try.underlying33 rfl (by kernel_rfl)) rfl ?_
   exact ⟨zs, zb1 HB.out GE215.out⟩
 replace c9 := Bool.eq_false_iff.mpr c9
 subst c9
 have H1 : (some (0, 0, 0, false)) = some (r1, r2, r3, r4) := by rw [if_neg (show ¬ (false = true) by decide)] at H; exact H
 clear H
 have H := H1
 clear H1
 simp only [Option.some.injEq, Prod.mk.injEq] at H
 obtain ⟨rfl, rfl, rfl, rfl⟩ := H
 go_enter Try.func35, Try.ntmps35
 go_wp2_with (first | ((with_reducible refine gate_dst (N := 6) rfl ?_); refine box_event ?hg (N := 6) ?hd (cs := #[.int .i16 0, .int .i16 0, .int .i16 0]) (t := 33) ?hr ?_; (case hd => rfl); (case hg => rfl); (case hr => first | (go_simp; done) | (go_simp; rfl)); intro gb215 hg w12 hbox hb; refine up4 (below_step (zb HB.out) hb) (hbox) ((by rw [hg]; exact (below_size (zb HB.out)) : w.heap.size ≤ gb215)) ((by rw [hg]; exact (below_size (zb HB.out)) : w.heap.size ≤ gb215)) ?_; clear HB; intro HB BK215 GW215 GE215; clear hb hbox hg) | ((with_reducible refine gate_callee (f := 50) rfl ?_); refine goesL_ (some 9) rfl rfl Try.func50 (by kernel_rfl) rfl #[.int .i64 a0, .int .i64 1, .int .i64 5000] rfl zr ?_; (with_reducible refine (spec_l00In.calls a0 1 5000 true _ A4.out).mono ?_); rintro e w' ⟨rfl, ⟨nd, rfl⟩⟩; refine ⟨_, rfl, ?_⟩; (try (rw [drewN_self w12]; generalize hq_ : World.drewN w12 _ = w12; refine up2 (show w12.heap[gb215]? = some (.cells #[.int .i16 0, .int .i16 0, .int .i16 0] 33 (0, 0)) from by rw [← hq_]; exact (zq BK215.out)) (show Below w.heap.size w w12 from by rw [← hq_]; exact (zb1 HB.out GE215.out)) ?_; clear BK215 HB hq_; intro BK215 HB))) | (go_at_call 50; (with_reducible refine (spec_l00In.calls a1 (-2000) 2000 true _ A6.out).mono ?_); rintro e w' ⟨rfl, ⟨nd, rfl⟩⟩; (try (rw [drewN_self w12]; generalize hq_ : World.drewN w12 _ = w12; refine up2 (show w12.heap[gb215]? = some (.cells #[.int .i16 0, .int .i16 0, .int .i16 0] 33 (0, 0)) from by rw [← hq_]; exact (zq BK215.out)) (show Below w.heap.size w w12 from by rw [← hq_]; exact (zb1 HB.out GE215.out)) ?_; clear BK215 HB hq_; intro BK215 HB))) | (go_at_call 50; (with_reducible refine (spec_l00In.calls a2 1 2000 false _ A8.out).mono ?_); rintro e w' ⟨rfl, ⟨nd, rfl⟩⟩; (try (rw [drewN_self w12]; generalize hq_ : World.drewN w12 _ = w12; refine up2 (show w12.heap[gb215]? = some (.cells #[.int .i16 0, .int .i16 0, .int .i16 0] 33 (0, 0)) from by rw [← hq_]; exact (zq BK215.out)) (show Below w.heap.size w w12 from by rw [← hq_]; exact (zb1 HB.out GE215.out)) ?_; clear BK215 HB hq_; intro BK215 HB)); have hcz13_0 : w12.cell? ⟨gb215, 0, none⟩ = some (.int .i16 0) := (blk_cell BK215.out 0).trans rfl; have hcz13_1 : w12.cell? ⟨gb215, 1, none⟩ = some (.int .i16 0) := (blk_cell BK215.out 1).trans rfl; have hcz13_2 : w12.cell? ⟨gb215, 2, none⟩ = some (.int .i16 0) := (blk_cell BK215.out 2).trans rfl; have hfz13_0 := blk_frozen BK215.out 0; have hfz13_1 := blk_frozen BK215.out 1; have hfz13_2 := blk_frozen BK215.out 2))
 refine bodyPost_ret (results_ct rfl _ _ gb215 33 #[.int .i16 0, .int .i16 0, .int .i16 0] (0, 0) _ rfl (by (with_reducible repeat (first | refine blk_drewN ?_ _ | refine blk_drew ?_ | refine blk_alloc ?_ _)); refine blk_put (cs := #[.int .i16 0, .int .i16 0, .int .i16 0]) ?_ 2 _ rfl; (with_reducible repeat (first | refine blk_drewN ?_ _ | refine blk_drew ?_ | refine blk_alloc ?_ _)); refine blk_put (cs := #[.int .i16 0, .int .i16 0, .int .i16 0]) ?_ 1 _ rfl; (with_reducible repeat (first | refine blk_drewN ?_ _ | refine blk_drew ?_ | refine blk_alloc ?_ _)); refine blk_put (cs := #[.int .i16 0, .int .i16 0, .int .i16 0]) ?_ 0 _ rfl; (with_reducible repeat (first | refine blk_drewN ?_ _ | refine blk_drew ?_ | refine blk_alloc ?_ _)); exact BK215.out) Try.underlying33 rfl (by kernel_rfl)) rfl ?_
 exact ⟨zs, zb1 HB.out GE215.out⟩

/-! ### spec_PlyYarns: function 14 -/
def spec_PlyYarns.l0 : Nat → List (S33) → Int → Int → Int → Int → Option (Int × Int × Int × Int)
  | 0, _, _, _, _, _ => none
  | k + 1, x0, x1, x7, x8, x9 => if x9 < (x0.length : Int) then (if 0 ≤ x9 then (spec_PlyYarns.l0 k x0 x1 x7 (wrap64 (x8 + (wrap64 ((rd_T33 x0 x9).f2)))) (wrap64 (x9 + 1))) else (none)) else ((spec_l03Make.f x7 x1 x8).bind fun bt223 => (if bt223.2.2.2 = true then (some (bt223.1, bt223.2.1, bt223.2.2.1, 0)) else (some (0, 0, 0, 4))))
def spec_PlyYarns.f (k : Nat) (l0 : List (S33)) (a1 : Int) : Option (Int × Int × Int × Int) := (spec_l03Plies.f k l0 a1).bind fun t220 => (if t220 = 0 then ((spec_l03Plied.f k l0 a1).bind fun t221 => (if t221 < 1 then (some (0, 0, 0, 6)) else (spec_PlyYarns.l0 k l0 a1 t221 0 0))) else (some (0, 0, 0, t220)))
theorem spec_PlyYarns.mono_l : ∀ k, (∀ y0 y1 y2 y3 y4, LeO (spec_PlyYarns.l0 k y0 y1 y2 y3 y4) (spec_PlyYarns.l0 (k + 1) y0 y1 y2 y3 y4))
  | 0 => fun _ _ _ _ _ r h => by simp [spec_PlyYarns.l0] at h
  | k + 1 => by
    have ih0 := spec_PlyYarns.mono_l k
    · intro y0 y1 y2 y3 y4
      unfold spec_PlyYarns.l0
      repeat' first
      | (with_reducible exact ih0 _ _ _ _ _)
      | (with_reducible exact spec_l03Plied.mono _ _ _)
      | (with_reducible exact spec_l03Plies.mono _ _ _)
      | (with_reducible exact LeO.refl _)
      | (with_reducible exact LeO.none _)
      | (with_reducible refine LeO.ite ?_ ?_)
      | (with_reducible refine LeO.bind ?_ (fun _ => ?_))
      | (with_reducible refine allG_mono _ (fun _ => ?_))
      | (with_reducible refine idxG_mono _ (fun _ => ?_))
      | exact ih0 _ _ _ _ _
      | exact spec_l03Plied.mono _ _ _
      | exact spec_l03Plies.mono _ _ _
      | exact LeO.none _
      | refine LeO.ite ?_ ?_
      | refine LeO.bind ?_ (fun _ => ?_)
theorem spec_PlyYarns.mono : ∀ a0 a1 k, LeO (spec_PlyYarns.f k a0 a1) (spec_PlyYarns.f (k + 1) a0 a1) := by
  intro a0 a1 k
  have ih0 := spec_PlyYarns.mono_l k
  unfold spec_PlyYarns.f
  repeat' first
      | (with_reducible exact ih0 _ _ _ _ _)
      | (with_reducible exact spec_l03Plied.mono _ _ _)
      | (with_reducible exact spec_l03Plies.mono _ _ _)
      | (with_reducible exact LeO.refl _)
      | (with_reducible exact LeO.none _)
      | (with_reducible refine LeO.ite ?_ ?_)
      | (with_reducible refine LeO.bind ?_ (fun _ => ?_))
      | (with_reducible refine allG_mono _ (fun _ => ?_))
      | (with_reducible refine idxG_mono _ (fun _ => ?_))
      | exact ih0 _ _ _ _ _
      | exact spec_l03Plied.mono _ _ _
      | exact spec_l03Plies.mono _ _ _
      | exact LeO.none _
      | refine LeO.ite ?_ ?_
      | refine LeO.bind ?_ (fun _ => ?_)
set_option maxHeartbeats 8000000 in
set_option maxRecDepth 100000 in
theorem spec_PlyYarns.calls (k : Nat) (A0 : Option Addr) (c0 : Nat) (l0 : List (S33)) (a1 : Int) (r1 : Int) (r2 : Int) (r3 : Int) (r4 : Int) (w : World) (hr0 : Kd.C k33 w A0 l0.length l0) (hc0 : l0.length ≤ c0) (h : spec_PlyYarns.f k l0 a1 = some (r1, r2, r3, r4)) :
    Calls Try.prog 14 #[.slice A0 l0.length c0, .int .i64 a1] w fun e w' => e = .returned (.tuple #[.agg #[.int .i16 r1, .int .i16 r2, .int .i16 r3], .int .i64 r4]) ∧ Below w.heap.size w w' := by
 have hu33 := Try.underlying33
 have HR0 := Aside0.mk hr0
 have HC0 := Aside0.mk hc0
 clear hr0 hc0
 have HB := Aside0.mk (Below.refl w.heap.size w)
 have H : ((spec_l03Plies.f k l0 a1).bind fun t220 => (if t220 = 0 then ((spec_l03Plied.f k l0 a1).bind fun t221 => (if t221 < 1 then (some (0, 0, 0, 6)) else (spec_PlyYarns.l0 k l0 a1 t221 0 0))) else (some (0, 0, 0, t220)))) = some (r1, r2, r3, r4) := h
 clear h
 replace H := Option.bind_eq_some_iff.mp H
 obtain ⟨t220, A30, H⟩ := H
 replace H : (if t220 = 0 then ((spec_l03Plied.f k l0 a1).bind fun t221 => (if t221 < 1 then (some (0, 0, 0, 6)) else (spec_PlyYarns.l0 k l0 a1 t221 0 0))) else (some (0, 0, 0, t220))) = some (r1, r2, r3, r4) := H
 have A3 := Aside0.mk A30
 clear A30
 by_cases c4 : t220 = 0
 rotate_left
 · rw [if_neg c4] at H
   have c4b0 : (t220 == 0) = false := beq_eq_false_iff_ne.mpr c4
   have c4b1 : (t220 != 0) = true := bne_iff_ne.mpr c4
   simp only [Option.some.injEq, Prod.mk.injEq] at H
   obtain ⟨rfl, rfl, rfl, rfl⟩ := H
   go_enter Try.func14, Try.ntmps14
   go_wp2_with (first | ((with_reducible refine gate_dst (N := 4) rfl ?_); refine box_event ?hg (N := 4) ?hd (cs := #[.int .i16 0, .int .i16 0, .int .i16 0]) (t := 33) ?hr ?_; (case hd => rfl); (case hg => rfl); (case hr => first | (go_simp; done) | (go_simp; rfl)); intro gb219 hg w26 hbox hb; refine up4 (below_step (zb HB.out) hb) (hbox) ((by rw [hg]; exact (below_size (zb HB.out)) : w.heap.size ≤ gb219)) ((by rw [hg]; exact (below_size (zb HB.out)) : w.heap.size ≤ gb219)) ?_; clear HB; intro HB BK219 GW219 GE219; clear hb hbox hg) | ((with_reducible refine gate_callee (f := 28) rfl ?_); refine goesL_ (some 14) rfl rfl Try.func28 (by kernel_rfl) rfl #[.slice A0 l0.length c0, .int .i64 a1] rfl zr ?_; (with_reducible refine (spec_l03Plies.calls k _ _ l0 a1 t220 _ ?side1 ?side2 A3.out).mono ?_); (case side1 => exact zk (Kd.C_below HR0.out HB.out)); (case side2 => exact HC0.out); rintro e w27 ⟨rfl, hb⟩; refine ⟨_, rfl, ?_⟩; refine up2 (blk_below (g := gb219) (o := .cells #[.int .i16 0, .int .i16 0, .int .i16 0] 33 (0, 0)) (zq BK219.out) hb) (below_step (zb1 HB.out GE219.out) hb) ?_; clear BK219 HB; intro BK219 HB; (try clear hb); (try clear hb2); (try clear hk); (try clear hi); have hcz28_0 : w27.cell? ⟨gb219, 0, none⟩ = some (.int .i16 0) := (blk_cell BK219.out 0).trans rfl; have hcz28_1 : w27.cell? ⟨gb219, 1, none⟩ = some (.int .i16 0) := (blk_cell BK219.out 1).trans rfl; have hcz28_2 : w27.cell? ⟨gb219, 2, none⟩ = some (.int .i16 0) := (blk_cell BK219.out 2).trans rfl; have hfz28_0 := blk_frozen BK219.out 0; have hfz28_1 := blk_frozen BK219.out 1; have hfz28_2 := blk_frozen BK219.out 2))
   refine bodyPost_ret (results_ct rfl _ _ gb219 33 #[.int .i16 0, .int .i16 0, .int .i16 0] (0, 0) _ rfl (by (with_reducible repeat (first | refine blk_drewN ?_ _ | refine blk_drew ?_ | refine blk_alloc ?_ _)); refine blk_put (cs := #[.int .i16 0, .int .i16 0, .int .i16 0]) ?_ 2 _ rfl; (with_reducible repeat (first | refine blk_drewN ?_ _ | refine blk_drew ?_ | refine blk_alloc ?_ _)); refine blk_put (cs := #[.int .i16 0, .int .i16 0, .int .i16 0]) ?_ 1 _ rfl; (with_reducible repeat (first | refine blk_drewN ?_ _ | refine blk_drew ?_ | refine blk_alloc ?_ _)); refine blk_put (cs := #[.int .i16 0, .int .i16 0, .int .i16 0]) ?_ 0 _ rfl; (with_reducible repeat (first | refine blk_drewN ?_ _ | refine blk_drew ?_ | refine blk_alloc ?_ _)); exact BK219.out) Try.underlying33 rfl (by kernel_rfl)) rfl ?_
   exact ⟨zs, zb1 HB.out GE219.out⟩
 rw [if_pos c4] at H
 have c4b0 : (t220 == 0) = true := beq_iff_eq.mpr c4
 have c4b1 : (t220 != 0) = false := bne_eq_false_iff_eq.mpr c4
 clear c4
 replace H := Option.bind_eq_some_iff.mp H
 obtain ⟨t221, A50, H⟩ := H
 replace H : (if t221 < 1 then (some (0, 0, 0, 6)) else (spec_PlyYarns.l0 k l0 a1 t221 0 0)) = some (r1, r2, r3, r4) := H
 have A5 := Aside0.mk A50
 clear A50
 by_cases c6 : t221 < 1
 · rw [if_pos c6] at H
   have c6b0 : decide (t221 < 1) = true := decide_eq_true c6
   clear c6
   simp only [Option.some.injEq, Prod.mk.injEq] at H
   obtain ⟨rfl, rfl, rfl, rfl⟩ := H
   go_enter Try.func14, Try.ntmps14
   go_wp2_with (first | ((with_reducible refine gate_dst (N := 4) rfl ?_); refine box_event ?hg (N := 4) ?hd (cs := #[.int .i16 0, .int .i16 0, .int .i16 0]) (t := 33) ?hr ?_; (case hd => rfl); (case hg => rfl); (case hr => first | (go_simp; done) | (go_simp; rfl)); intro gb219 hg w7 hbox hb; refine up4 (below_step (zb HB.out) hb) (hbox) ((by rw [hg]; exact (below_size (zb HB.out)) : w.heap.size ≤ gb219)) ((by rw [hg]; exact (below_size (zb HB.out)) : w.heap.size ≤ gb219)) ?_; clear HB; intro HB BK219 GW219 GE219; clear hb hbox hg) | ((with_reducible refine gate_callee (f := 28) rfl ?_); refine goesL_ (some 14) rfl rfl Try.func28 (by kernel_rfl) rfl #[.slice A0 l0.length c0, .int .i64 a1] rfl zr ?_; (with_reducible refine (spec_l03Plies.calls k _ _ l0 a1 t220 _ ?side1 ?side2 A3.out).mono ?_); (case side1 => exact zk (Kd.C_below HR0.out HB.out)); (case side2 => exact HC0.out); rintro e w8 ⟨rfl, hb⟩; refine ⟨_, rfl, ?_⟩; refine up2 (blk_below (g := gb219) (o := .cells #[.int .i16 0, .int .i16 0, .int .i16 0] 33 (0, 0)) (zq BK219.out) hb) (below_step (zb1 HB.out GE219.out) hb) ?_; clear BK219 HB; intro BK219 HB; (try clear hb); (try clear hb2); (try clear hk); (try clear hi)) | ((with_reducible refine gate_callee (f := 32) rfl ?_); refine goesL_ (some 21) rfl rfl Try.func32 (by kernel_rfl) rfl #[.slice A0 l0.length c0, .int .i64 a1] rfl zr ?_; (with_reducible refine (spec_l03Plied.calls k _ _ l0 a1 t221 _ ?side1 ?side2 A5.out).mono ?_); (case side1 => exact zk (Kd.C_below HR0.out HB.out)); (case side2 => exact HC0.out); rintro e w' ⟨rfl, ⟨nd, rfl⟩⟩; refine ⟨_, rfl, ?_⟩; (try (rw [drewN_self w8]; generalize hq_ : World.drewN w8 _ = w8; refine up2 (show w8.heap[gb219]? = some (.cells #[.int .i16 0, .int .i16 0, .int .i16 0] 33 (0, 0)) from by rw [← hq_]; exact (zq BK219.out)) (show Below w.heap.size w w8 from by rw [← hq_]; exact (zb1 HB.out GE219.out)) ?_; clear BK219 HB hq_; intro BK219 HB)); have hcz9_0 : w8.cell? ⟨gb219, 0, none⟩ = some (.int .i16 0) := (blk_cell BK219.out 0).trans rfl; have hcz9_1 : w8.cell? ⟨gb219, 1, none⟩ = some (.int .i16 0) := (blk_cell BK219.out 1).trans rfl; have hcz9_2 : w8.cell? ⟨gb219, 2, none⟩ = some (.int .i16 0) := (blk_cell BK219.out 2).trans rfl; have hfz9_0 := blk_frozen BK219.out 0; have hfz9_1 := blk_frozen BK219.out 1; have hfz9_2 := blk_frozen BK219.out 2))
   refine bodyPost_ret (results_ct rfl _ _ gb219 33 #[.int .i16 0, .int .i16 0, .int .i16 0] (0, 0) _ rfl (by (with_reducible repeat (first | refine blk_drewN ?_ _ | refine blk_drew ?_ | refine blk_alloc ?_ _)); refine blk_put (cs := #[.int .i16 0, .int .i16 0, .int .i16 0]) ?_ 2 _ rfl; (with_reducible repeat (first | refine blk_drewN ?_ _ | refine blk_drew ?_ | refine blk_alloc ?_ _)); refine blk_put (cs := #[.int .i16 0, .int .i16 0, .int .i16 0]) ?_ 1 _ rfl; (with_reducible repeat (first | refine blk_drewN ?_ _ | refine blk_drew ?_ | refine blk_alloc ?_ _)); refine blk_put (cs := #[.int .i16 0, .int .i16 0, .int .i16 0]) ?_ 0 _ rfl; (with_reducible repeat (first | refine blk_drewN ?_ _ | refine blk_drew ?_ | refine blk_alloc ?_ _)); exact BK219.out) Try.underlying33 rfl (by kernel_rfl)) rfl ?_
   exact ⟨zs, zb1 HB.out GE219.out⟩
 rw [if_neg c6] at H
 have c6b0 : decide (t221 < 1) = false := decide_eq_false c6
 clear c6
 have H' := Aside0.mk H
 clear H
 go_enter Try.func14, Try.ntmps14
 go_wp2_with (first | ((with_reducible refine gate_dst (N := 4) rfl ?_); refine box_event ?hg (N := 4) ?hd (cs := #[.int .i16 0, .int .i16 0, .int .i16 0]) (t := 33) ?hr ?_; (case hd => rfl); (case hg => rfl); (case hr => first | (go_simp; done) | (go_simp; rfl)); intro gb219 hg w10 hbox hb; refine up4 (below_step (zb HB.out) hb) (hbox) ((by rw [hg]; exact (below_size (zb HB.out)) : w.heap.size ≤ gb219)) ((by rw [hg]; exact (below_size (zb HB.out)) : w.heap.size ≤ gb219)) ?_; clear HB; intro HB BK219 GW219 GE219; clear hb hbox hg) | ((with_reducible refine gate_callee (f := 28) rfl ?_); refine goesL_ (some 14) rfl rfl Try.func28 (by kernel_rfl) rfl #[.slice A0 l0.length c0, .int .i64 a1] rfl zr ?_; (with_reducible refine (spec_l03Plies.calls k _ _ l0 a1 t220 _ ?side1 ?side2 A3.out).mono ?_); (case side1 => exact zk (Kd.C_below HR0.out HB.out)); (case side2 => exact HC0.out); rintro e w11 ⟨rfl, hb⟩; refine ⟨_, rfl, ?_⟩; refine up2 (blk_below (g := gb219) (o := .cells #[.int .i16 0, .int .i16 0, .int .i16 0] 33 (0, 0)) (zq BK219.out) hb) (below_step (zb1 HB.out GE219.out) hb) ?_; clear BK219 HB; intro BK219 HB; (try clear hb); (try clear hb2); (try clear hk); (try clear hi)) | ((with_reducible refine gate_callee (f := 32) rfl ?_); refine goesL_ (some 21) rfl rfl Try.func32 (by kernel_rfl) rfl #[.slice A0 l0.length c0, .int .i64 a1] rfl zr ?_; (with_reducible refine (spec_l03Plied.calls k _ _ l0 a1 t221 _ ?side1 ?side2 A5.out).mono ?_); (case side1 => exact zk (Kd.C_below HR0.out HB.out)); (case side2 => exact HC0.out); rintro e w' ⟨rfl, ⟨nd, rfl⟩⟩; refine ⟨_, rfl, ?_⟩))
 go_loopg [8, 9] k (fun kq v8 v9 w' => ∃ (x8_1 : Int) (x9_1 : Int), v8 = .int .i64 x8_1 ∧ v9 = .int .i64 x9_1 ∧ Aside0 (spec_PlyYarns.l0 kq l0 a1 t221 x8_1 x9_1 = some (r1, r2, r3, r4)) ∧ Aside0 (kq ≤ k) ∧ Aside0 (w'.heap[gb219]? = some (.cells #[.int .i16 0, .int .i16 0, .int .i16 0] 33 (0, 0))) ∧ Aside0 (Below w.heap.size w w'))
 case atStart => exact ⟨(0), (0), zx, zx, H', ⟨Nat.le_refl _⟩, ⟨by (with_reducible repeat (first | refine blk_drewN ?_ _ | refine blk_drew ?_ | refine blk_alloc ?_ _)); exact BK219.out⟩, ⟨zb1 HB.out GE219.out⟩⟩
 case round =>
 clear H'
 try clear c1
 try clear c2
 try clear p2
 try clear c3
 try clear c4
 try clear c4b0
 try clear c4b1
 try clear c6
 try clear c6b0
 try clear hcz9_0
 try clear hcz9_1
 try clear hcz9_2
 try clear hfz9_0
 try clear hfz9_1
 try clear hfz9_2
 obtain ⟨x8_1, x9_1, rfl, rfl, HA, HK1, BK219, HB⟩ := hrel
 cases gk with
 | zero => exact absurd HA.out (by simp [spec_PlyYarns.l0])
 | succ k1 =>
  have H := HA.out
  clear HA
  simp only [spec_PlyYarns.l0] at H
  by_cases c12 : x9_1 < (l0.length : Int)
  · rw [if_pos c12] at H
    have c12b0 : decide (x9_1 < (l0.length : Int)) = true := decide_eq_true c12
    clear c12
    by_cases c13 : 0 ≤ x9_1
    rotate_left
    · rw [if_neg c13] at H
      exact absurd H (by simp)
    rw [if_pos c13] at H
    have c13b0 : decide (0 ≤ x9_1) = true := decide_eq_true c13
    clear c13
    have H' := Aside0.mk H
    clear H
    have p222 : 0 ≤ (x9_1 : Int) := zd
    have q222 : x9_1 < (l0.length : Int) := zd
    obtain ⟨ad222, e222, hx222_0, hx222_1, hx222_2⟩ := at_T33 HR0.out x9_1 p222 q222
    cases e222
    replace hx222_0 := zc HB.out hx222_0
    replace hx222_1 := zc HB.out hx222_1
    replace hx222_2 := zc HB.out hx222_2
    replace p222 := eq_true p222
    replace q222 := eq_true q222
    go_wp2
    go_roundg k1
    case measure => have := HK1.out; omega
    case rel => exact ⟨(wrap64 (x8_1 + (wrap64 ((rd_T33 l0 x9_1).f2)))), (wrap64 (x9_1 + 1)), zx, zx, H', ⟨by have := HK1.out; omega⟩, ⟨by (with_reducible repeat (first | refine blk_drewN ?_ _ | refine blk_drew ?_ | refine blk_alloc ?_ _)); exact BK219.out⟩, ⟨zb1 HB.out GE219.out⟩⟩
  rw [if_neg c12] at H
  have c12b0 : decide (x9_1 < (l0.length : Int)) = false := decide_eq_false c12
  clear c12
  replace H := Option.bind_eq_some_iff.mp H
  obtain ⟨⟨t223, t224, t225, t226⟩, A140, H⟩ := H
  replace H : (if t226 = true then (some (t223, t224, t225, 0)) else (some (0, 0, 0, 4))) = some (r1, r2, r3, r4) := H
  have A14 := Aside0.mk A140
  clear A140
  by_cases c15 : t226 = true
  · subst c15
    have H1 : (some (t223, t224, t225, 0)) = some (r1, r2, r3, r4) := by rw [if_pos rfl] at H; exact H
    clear H
    have H := H1
    clear H1
    simp only [Option.some.injEq, Prod.mk.injEq] at H
    obtain ⟨rfl, rfl, rfl, rfl⟩ := H
    go_wp2_with (first | ((with_reducible refine gate_callee (f := 35) rfl ?_); refine goesL_ (some 43) rfl rfl Try.func35 (by kernel_rfl) rfl #[.int .i64 t221, .int .i64 a1, .int .i64 x8_1] rfl zr ?_; (with_reducible refine (spec_l03Make.calls t221 a1 x8_1 t223 t224 t225 true _ A14.out).mono ?_); rintro e w16 ⟨rfl, hb⟩; refine ⟨_, rfl, ?_⟩; refine up2 (blk_below (g := gb219) (o := .cells #[.int .i16 0, .int .i16 0, .int .i16 0] 33 (0, 0)) (zq BK219.out) hb) (below_step (zb1 HB.out GE219.out) hb) ?_; clear BK219 HB; intro BK219 HB; (try clear hb); (try clear hb2); (try clear hk); (try clear hi)) | ((with_reducible refine gate_dst (N := 10) rfl ?_); refine box_event ?hg (N := 10) ?hd (cs := #[.int .i16 0, .int .i16 0, .int .i16 0]) (t := 33) ?hr ?_; (case hd => rfl); (case hg => rfl); (case hr => first | (go_simp; done) | (go_simp; rfl)); intro gb227 hg w17 hbox hb; refine up7 (blk_below (g := gb219) (o := .cells #[.int .i16 0, .int .i16 0, .int .i16 0] 33 (0, 0)) (zq BK219.out) hb) (below_step (zb1 HB.out GE219.out) hb) (hbox) ((by rw [hg]; exact (below_size (zb1 HB.out GE219.out)) : w.heap.size ≤ gb227)) ((by rw [hg]; exact (below_size (zb1 HB.out GE219.out)) : w.heap.size ≤ gb227)) ((by rw [hg]; exact Nat.ne_of_lt (blk_lt (g := gb219) (o := .cells #[.int .i16 0, .int .i16 0, .int .i16 0] 33 (0, 0)) (zq BK219.out)) : gb219 ≠ gb227)) ((by rw [hg]; exact Nat.ne_of_gt (blk_lt (g := gb219) (o := .cells #[.int .i16 0, .int .i16 0, .int .i16 0] 33 (0, 0)) (zq BK219.out)) : gb227 ≠ gb219)) ?_; clear BK219 HB; intro BK219 HB BK227 GW227 GE227 NB219_227 NB227_219; clear hb hbox hg; have hnb18 := NB227_219.out; have hnc18 := NB219_227.out; have hcz19_0 : w17.cell? ⟨gb227, 0, none⟩ = some (.int .i16 0) := (blk_cell BK227.out 0).trans rfl; have hcz19_1 : w17.cell? ⟨gb227, 1, none⟩ = some (.int .i16 0) := (blk_cell BK227.out 1).trans rfl; have hcz19_2 : w17.cell? ⟨gb227, 2, none⟩ = some (.int .i16 0) := (blk_cell BK227.out 2).trans rfl; have hfz19_0 := blk_frozen BK227.out 0; have hfz19_1 := blk_frozen BK227.out 1; have hfz19_2 := blk_frozen BK227.out 2; have hcz20_0 : w17.cell? ⟨gb219, 0, none⟩ = some (.int .i16 0) := (blk_cell BK219.out 0).trans rfl; have hcz20_1 : w17.cell? ⟨gb219, 1, none⟩ = some (.int .i16 0) := (blk_cell BK219.out 1).trans rfl; have hcz20_2 : w17.cell? ⟨gb219, 2, none⟩ = some (.int .i16 0) := (blk_cell BK219.out 2).trans rfl; have hfz20_0 := blk_frozen BK219.out 0; have hfz20_1 := blk_frozen BK219.out 1; have hfz20_2 := blk_frozen BK219.out 2))
    refine bodyPost_ret (results_ct rfl _ _ gb219 33 #[.int .i16 t223, .int .i16 t224, .int .i16 t225] (0, 0) _ rfl (by (with_reducible repeat (first | refine blk_drewN ?_ _ | refine blk_drew ?_ | refine blk_alloc ?_ _)); refine blk_put (cs := #[.int .i16 t223, .int .i16 t224, .int .i16 0]) ?_ 2 _ rfl; (with_reducible repeat (first | refine blk_drewN ?_ _ | refine blk_drew ?_ | refine blk_alloc ?_ _)); refine blk_put (cs := #[.int .i16 t223, .int .i16 0, .int .i16 0]) ?_ 1 _ rfl; (with_reducible repeat (first | refine blk_drewN ?_ _ | refine blk_drew ?_ | refine blk_alloc ?_ _)); refine blk_put (cs := #[.int .i16 0, .int .i16 0, .int .i16 0]) ?_ 0 _ rfl; (with_reducible repeat (first | refine blk_drewN ?_ _ | refine blk_drew ?_ | refine blk_alloc ?_ _)); refine blk_far ?_ NB219_227.out _; (with_reducible repeat (first | refine blk_drewN ?_ _ | refine blk_drew ?_ | refine blk_alloc ?_ _)); refine blk_far ?_ NB219_227.out _; (with_reducible repeat (first | refine blk_drewN ?_ _ | refine blk_drew ?_ | refine blk_alloc ?_ _)); refine blk_far ?_ NB219_227.out _; (with_reducible repeat (first | refine blk_drewN ?_ _ | refine blk_drew ?_ | refine blk_alloc ?_ _)); exact BK219.out) Try.underlying33 rfl (by kernel_rfl)) rfl ?_
    exact ⟨zs, zb2 HB.out GE219.out GE227.out⟩
  replace c15 := Bool.eq_false_iff.mpr c15
  subst c15
  have H1 : (some (0, 0, 0, 4)) = some (r1, r2, r3, r4) := by rw [if_neg (show ¬ (false = true) by decide)] at H; exact H
  clear H
  have H := H1
  clear H1
  simp only [Option.some.injEq, Prod.mk.injEq] at H
  obtain ⟨rfl, rfl, rfl, rfl⟩ := H
  go_wp2_with (first | ((with_reducible refine gate_callee (f := 35) rfl ?_); refine goesL_ (some 43) rfl rfl Try.func35 (by kernel_rfl) rfl #[.int .i64 t221, .int .i64 a1, .int .i64 x8_1] rfl zr ?_; (with_reducible refine (spec_l03Make.calls t221 a1 x8_1 t223 t224 t225 false _ A14.out).mono ?_); rintro e w21 ⟨rfl, hb⟩; refine ⟨_, rfl, ?_⟩; refine up2 (blk_below (g := gb219) (o := .cells #[.int .i16 0, .int .i16 0, .int .i16 0] 33 (0, 0)) (zq BK219.out) hb) (below_step (zb1 HB.out GE219.out) hb) ?_; clear BK219 HB; intro BK219 HB; (try clear hb); (try clear hb2); (try clear hk); (try clear hi)) | ((with_reducible refine gate_dst (N := 10) rfl ?_); refine box_event ?hg (N := 10) ?hd (cs := #[.int .i16 0, .int .i16 0, .int .i16 0]) (t := 33) ?hr ?_; (case hd => rfl); (case hg => rfl); (case hr => first | (go_simp; done) | (go_simp; rfl)); intro gb227 hg w22 hbox hb; refine up7 (blk_below (g := gb219) (o := .cells #[.int .i16 0, .int .i16 0, .int .i16 0] 33 (0, 0)) (zq BK219.out) hb) (below_step (zb1 HB.out GE219.out) hb) (hbox) ((by rw [hg]; exact (below_size (zb1 HB.out GE219.out)) : w.heap.size ≤ gb227)) ((by rw [hg]; exact (below_size (zb1 HB.out GE219.out)) : w.heap.size ≤ gb227)) ((by rw [hg]; exact Nat.ne_of_lt (blk_lt (g := gb219) (o := .cells #[.int .i16 0, .int .i16 0, .int .i16 0] 33 (0, 0)) (zq BK219.out)) : gb219 ≠ gb227)) ((by rw [hg]; exact Nat.ne_of_gt (blk_lt (g := gb219) (o := .cells #[.int .i16 0, .int .i16 0, .int .i16 0] 33 (0, 0)) (zq BK219.out)) : gb227 ≠ gb219)) ?_; clear BK219 HB; intro BK219 HB BK227 GW227 GE227 NB219_227 NB227_219; clear hb hbox hg; have hnb23 := NB227_219.out; have hnc23 := NB219_227.out; have hcz24_0 : w22.cell? ⟨gb227, 0, none⟩ = some (.int .i16 0) := (blk_cell BK227.out 0).trans rfl; have hcz24_1 : w22.cell? ⟨gb227, 1, none⟩ = some (.int .i16 0) := (blk_cell BK227.out 1).trans rfl; have hcz24_2 : w22.cell? ⟨gb227, 2, none⟩ = some (.int .i16 0) := (blk_cell BK227.out 2).trans rfl; have hfz24_0 := blk_frozen BK227.out 0; have hfz24_1 := blk_frozen BK227.out 1; have hfz24_2 := blk_frozen BK227.out 2; have hcz25_0 : w22.cell? ⟨gb219, 0, none⟩ = some (.int .i16 0) := (blk_cell BK219.out 0).trans rfl; have hcz25_1 : w22.cell? ⟨gb219, 1, none⟩ = some (.int .i16 0) := (blk_cell BK219.out 1).trans rfl; have hcz25_2 : w22.cell? ⟨gb219, 2, none⟩ = some (.int .i16 0) := (blk_cell BK219.out 2).trans rfl; have hfz25_0 := blk_frozen BK219.out 0; have hfz25_1 := blk_frozen BK219.out 1; have hfz25_2 := blk_frozen BK219.out 2))
  refine bodyPost_ret (results_ct rfl _ _ gb219 33 #[.int .i16 0, .int .i16 0, .int .i16 0] (0, 0) _ rfl (by (with_reducible repeat (first | refine blk_drewN ?_ _ | refine blk_drew ?_ | refine blk_alloc ?_ _)); refine blk_put (cs := #[.int .i16 0, .int .i16 0, .int .i16 0]) ?_ 2 _ rfl; (with_reducible repeat (first | refine blk_drewN ?_ _ | refine blk_drew ?_ | refine blk_alloc ?_ _)); refine blk_put (cs := #[.int .i16 0, .int .i16 0, .int .i16 0]) ?_ 1 _ rfl; (with_reducible repeat (first | refine blk_drewN ?_ _ | refine blk_drew ?_ | refine blk_alloc ?_ _)); refine blk_put (cs := #[.int .i16 0, .int .i16 0, .int .i16 0]) ?_ 0 _ rfl; (with_reducible repeat (first | refine blk_drewN ?_ _ | refine blk_drew ?_ | refine blk_alloc ?_ _)); refine blk_far ?_ NB219_227.out _; (with_reducible repeat (first | refine blk_drewN ?_ _ | refine blk_drew ?_ | refine blk_alloc ?_ _)); refine blk_far ?_ NB219_227.out _; (with_reducible repeat (first | refine blk_drewN ?_ _ | refine blk_drew ?_ | refine blk_alloc ?_ _)); refine blk_far ?_ NB219_227.out _; (with_reducible repeat (first | refine blk_drewN ?_ _ | refine blk_drew ?_ | refine blk_alloc ?_ _)); exact BK219.out) Try.underlying33 rfl (by kernel_rfl)) rfl ?_
  exact ⟨zs, zb2 HB.out GE219.out GE227.out⟩

/-! ### impl_MatchSingles_1: function 39 -/
/-- What a pair leaves over. -/
def impl_MatchSingles_1.rest (l : List S33) (p : S41) : Option Int := if 0 ≤ p.f0 ∧ p.f0 < (l.length : Int) ∧ 0 ≤ p.f1 ∧ p.f1 < (l.length : Int) then impl_size.f (wrap64 (wrap64 (rd_T33 l p.f0).f1 - wrap64 (rd_T33 l p.f1).f1)) else none
def impl_MatchSingles_1.sum (l : List S33) : List S41 → Int → Option Int
  | [], s => some s
  | p :: ps, s => (impl_MatchSingles_1.rest l p).bind fun x => impl_MatchSingles_1.sum l ps (wrap64 (s + x))
/-- The best pairs and their sum, behind one more pairing. -/
def impl_MatchSingles_1.f (l : List S33) (ps B : List S41) (m : Int) : Option (List S41 × Int) := (impl_MatchSingles_1.sum l ps 0).bind fun s => some (if m < 0 ∨ s < m then (ps, s) else (B, m))
/-- All blocks but two are as they were. -/
def impl_MatchSingles_1.Fr (gm gb : Nat) (W W' : World) : Prop := W.heap.size ≤ W'.heap.size ∧ ∀ k, k < W.heap.size → k ≠ gm → k ≠ gb → W'.heap[k]? = W.heap[k]?
theorem impl_MatchSingles_1.Fr.of_below {gm gb : Nat} {W W' : World} (h : Below W.heap.size W W') : impl_MatchSingles_1.Fr gm gb W W' := ⟨below_size h, fun k hk _ _ => h.block k hk⟩
theorem impl_MatchSingles_1.Fr.trans {gm gb : Nat} {W W1 W2 : World} (h : impl_MatchSingles_1.Fr gm gb W W1) (h2 : impl_MatchSingles_1.Fr gm gb W1 W2) : impl_MatchSingles_1.Fr gm gb W W2 :=
  ⟨Nat.le_trans h.1 h2.1, fun k hk a b => (h2.2 k (Nat.lt_of_lt_of_le hk h.1) a b).trans (h.2 k hk a b)⟩
theorem impl_MatchSingles_1.Fr.row {α : Type} {d : Kd α} {e base gm gb : Nat} {W W' : World} {v : Value} {xs : List α} (hf : impl_MatchSingles_1.Fr gm gb W W') (h : Kd.R d e W base (fun k => k ≠ gm ∧ k ≠ gb) v xs) : Kd.R d e W' base (fun k => k ≠ gm ∧ k ≠ gb) v xs :=
  Kd.R_mono (Kd.R_move (Kd.R_bound h) (fun k hk => hf.2 k hk.2.2.1 hk.1.1 hk.1.2)) (fun k hk => hk.1)
/-- The closure's variables: the boxes gL (list), gm (least), gb (best). -/
structure impl_MatchSingles_1.Inv (w W : World) (A0 : Option Addr) (c0 : Nat) (l : List S33) (gL gm gb : Nat) (B : List S41) (m : Int) (vB : Value) : Prop where
  b : Below w.heap.size w W
  lo : w.heap.size ≤ gL ∧ w.heap.size ≤ gm ∧ w.heap.size ≤ gb
  nd : gL ≠ gm ∧ gL ≠ gb ∧ gm ≠ gb
  hL : W.heap[gL]? = some (.cells #[.slice A0 l.length c0] 24 (0, 0))
  hm : W.heap[gm]? = some (.cells #[.int .i64 m] 2 (0, 0))
  hb : W.heap[gb]? = some (.cells #[vB] 36 (0, 0))
  rb : Kd.R k41 41 W w.heap.size (fun k => k ≠ gm ∧ k ≠ gb) vB B
theorem impl_MatchSingles_1.Inv.next {w W W' : World} {A0 : Option Addr} {c0 : Nat} {l : List S33} {gL gm gb : Nat} {B : List S41} {m : Int} {vB : Value} (h : impl_MatchSingles_1.Inv w W A0 c0 l gL gm gb B m vB) (hb : Below W.heap.size W W') : impl_MatchSingles_1.Inv w W' A0 c0 l gL gm gb B m vB :=
  ⟨below_then h.b h.b.size hb, h.lo, h.nd, blk_below h.hL hb, blk_below h.hm hb, blk_below h.hb hb, Kd.R_below h.rb hb⟩
/-- New best pairs, and their sum. -/
theorem impl_MatchSingles_1.Inv.best {w W : World} {A0 : Option Addr} {c0 : Nat} {l : List S33} {gL gm gb : Nat} {B : List S41} {m : Int} {vB : Value} (h : impl_MatchSingles_1.Inv w W A0 c0 l gL gm gb B m vB) {v2 : Value} {B2 : List S41} (hr : Kd.R k41 41 W w.heap.size (fun k => k ≠ gm ∧ k ≠ gb) v2 B2) (m2 : Int) :
    impl_MatchSingles_1.Inv w ((W.setCell ⟨gb, 0, none⟩ v2).setCell ⟨gm, 0, none⟩ (.int .i64 m2)) A0 c0 l gL gm gb B2 m2 v2 ∧ impl_MatchSingles_1.Fr gm gb W ((W.setCell ⟨gb, 0, none⟩ v2).setCell ⟨gm, 0, none⟩ (.int .i64 m2)) := by
  obtain ⟨n1, n2, n3⟩ := h.nd
  have far : ∀ {e : Nat} {v : Value} {xs : List S41}, Kd.R k41 e W w.heap.size (fun k => k ≠ gm ∧ k ≠ gb) v xs → Kd.R k41 e ((W.setCell ⟨gb, 0, none⟩ v2).setCell ⟨gm, 0, none⟩ (.int .i64 m2)) w.heap.size (fun k => k ≠ gm ∧ k ≠ gb) v xs := fun hx => Kd.R_far (p := ⟨gm, 0, none⟩) (Kd.R_far (p := ⟨gb, 0, none⟩) hx (fun k hk => hk.2) _) (fun k hk => hk.1) _
  refine ⟨⟨below_set (below_set h.b h.lo.2.2) h.lo.2.1, h.lo, h.nd, blk_far (blk_far h.hL n2 _) n1 _, blk_put (cs := #[.int .i64 m]) (blk_far h.hm n3 _) 0 _ rfl, blk_far (blk_put (cs := #[vB]) h.hb 0 v2 rfl) n3.symm _, far hr⟩, by simp, fun k _ hm_ hb_ => (Below.heap_setCell _ _ _ k (show k ≠ gm from hm_)).trans (Below.heap_setCell _ _ _ k (show k ≠ gb from hb_))⟩
theorem impl_MatchSingles_1.wr64 (n : Int) : IntKind.i64.wrap n = wrap64 n := by
  have e1 : (2 : Int) ^ IntKind.i64.bits = 18446744073709551616 := by decide
  have e2 : (2 : Int) ^ (IntKind.i64.bits - 1) = 9223372036854775808 := by decide
  have e3 : IntKind.i64.signed = true := rfl
  unfold IntKind.wrap wrap64
  simp only [e1, e2, e3, Bool.true_and, decide_eq_true_eq]
  split <;> omega
set_option maxHeartbeats 2000000 in
/-- impl.size, as a function that only reads. -/
theorem impl_MatchSingles_1.size (a0 r : Int) (w : World) (h : impl_size.f a0 = some r) : Calls Try.prog 40 #[.int .i64 a0] w fun e w' => e = .returned (.int .i64 r) ∧ Drawn0 w w' := by
  have H : (some (mx a0 (wrap64 (-a0)))) = some r := h
  clear h
  obtain ⟨ji2, hji2⟩ : ∃ j_ : Int, (mx a0 (wrap64 (-a0))) = j_ := ⟨_, rfl⟩
  replace H : (some ji2) = some r := by first | (rw [hji2] at H; exact H) | (simp only [hji2] at H ⊢; exact H)
  have hji2_ : (if a0 < (wrap64 (-a0)) then (wrap64 (-a0)) else a0) = ji2 := hji2
  obtain rfl := Option.some.inj H
  go_enter Try.func40, Try.ntmps40
  go_wp2
  go_ret
  exact ⟨by first | rfl | (simp only [← hji2]; first | rfl | (simp; rfl)) | (simp [*]; done), by repeat (first | exact Drawn0.refl _ | apply Drawn0.step)⟩
theorem impl_MatchSingles_1.eg : ∀ args w, (callFunc 39 args).run Try.prog w = .ok (.enter 39 args) w := enters_of Try.func39 (by kernel_rfl) rfl
set_option maxHeartbeats 8000000 in
set_option maxRecDepth 100000 in
theorem impl_MatchSingles_1.calls (w : World) (A0 : Option Addr) (c0 : Nat) (l : List S33) (gL gm gb : Nat) (hC : Kd.C k33 w A0 l.length l) (ps B B2 : List S41) (m m2 : Int) (vB vp : Value) (W : World) (hI : impl_MatchSingles_1.Inv w W A0 c0 l gL gm gb B m vB) (hp : Kd.R k41 41 W w.heap.size (fun k => k ≠ gm ∧ k ≠ gb) vp ps) (h : impl_MatchSingles_1.f l ps B m = some (B2, m2)) :
    Calls Try.prog 39 (#[vp] ++ #[.pointer (some ⟨gL, 0, none⟩), .pointer (some ⟨gm, 0, none⟩), .pointer (some ⟨gb, 0, none⟩)]) W fun e W' => e = .returned (.tuple #[]) ∧ (∃ v2, impl_MatchSingles_1.Inv w W' A0 c0 l gL gm gb B2 m2 v2) ∧ impl_MatchSingles_1.Fr gm gb W W' := by
 simp only [List.append_toArray, List.cons_append, List.nil_append]
 unfold impl_MatchSingles_1.f at h
 obtain ⟨s0, hs0, h⟩ := Option.bind_eq_some_iff.1 h
 have h := Option.some.inj h
 obtain ⟨Ap, cp, ep⟩ := Kd.R_slice hp
 subst ep
 have HP := Aside0.mk hp
 have HI := Aside0.mk hI
 have HCC := Aside0.mk hC
 have HS := Aside0.mk hs0
 have HB := Aside0.mk (Below.refl W.heap.size W)
 have HF := Aside0.mk h
 clear hp hI hC hs0 h
 go_enter Try.func39, Try.ntmps39
 go_wp2
 go_loopg [5, 10] ps.length (fun gg v5 v10 wr => ∃ (kk : Nat) (s : Int), kk + gg = ps.length ∧ v10 = .int .i64 (kk : Int) ∧ v5 = .int .i64 s ∧ Aside0 (impl_MatchSingles_1.sum l (ps.drop kk) s = some s0) ∧ Aside0 (Below W.heap.size W wr))
 case atStart => exact ⟨0, 0, by omega, rfl, rfl, HS, HB⟩
 case round =>
 clear HS HB
 obtain ⟨kk, s, hkk, rfl, rfl, HS, HB⟩ := hrel
 rcases Nat.lt_or_ge kk ps.length with hlt | hge
 · have c3b0 : decide ((kk : Int) < (ps.length : Int)) = true := decide_eq_true (by omega)
   obtain ⟨g1, rfl⟩ : ∃ g1, gk = g1 + 1 := ⟨gk - 1, by omega⟩
   have hS := HS.out
   rw [List.drop_eq_getElem_cons hlt, impl_MatchSingles_1.sum] at hS
   obtain ⟨x, hx, hS2⟩ := Option.bind_eq_some_iff.1 hS
   have HS2 := Aside0.mk hS2
   clear hS hS2 HS
   have HX := Aside0.mk hx
   clear hx
   have p5 : 0 ≤ (kk : Int) := by omega
   have q5 : (kk : Int) < (ps.length : Int) := by omega
   have hR := Kd.R_below HP.out HB.out
   obtain ⟨cR, hcR⟩ : ∃ c : Nat, Kd.C k41 wr Ap ps.length ps := ⟨0, (Kd.R_reads' hR).2.2⟩
   have HN63 := Aside0.mk (show ps.length ≤ 9223372036854775807 from hcR.2.1)
   obtain ⟨ad, ea, hx0, hx1⟩ := at_T41 hcR (kk : Int) p5 q5
   have er : rd_T41 ps (kk : Int) = ps[kk] := by unfold rd_T41; simp [List.getD, hlt]
   rw [er] at hx0 hx1
   rw [Int.toNat_natCast] at hx0 hx1
   subst ea
   have hcl : wr.cell? ⟨gL, 0, none⟩ = some (.slice A0 l.length c0) := (blk_cell (HI.out.next HB.out).hL 0).trans rfl
   unfold impl_MatchSingles_1.rest at HX
   by_cases cR : 0 ≤ ps[kk].f0 ∧ ps[kk].f0 < (l.length : Int) ∧ 0 ≤ ps[kk].f1 ∧ ps[kk].f1 < (l.length : Int)
   rotate_left
   · have hX := HX.out
     rw [if_neg cR] at hX
     cases hX
   have hX := HX.out
   rw [if_pos cR] at hX
   have HX2 := Aside0.mk hX
   clear hX HX
   obtain ⟨r0, r1, r2, r3⟩ := cR
   have hlC := Kd.C_below (Kd.C_below HCC.out HI.out.b) HB.out
   obtain ⟨a1, e1, _, hy1, _⟩ := at_T33 hlC ps[kk].f0 r0 r1
   obtain ⟨a2, e2, _, hy2, _⟩ := at_T33 hlC ps[kk].f1 r2 r3
   subst e1
   obtain rfl : a1 = a2 := by injection e2
   clear e2 hlC
   generalize ps[kk] = p at *
   generalize hz0 : p.f0 = z0 at *
   generalize hz1 : p.f1 = z1 at *
   go_wp2
   obtain ⟨W2, hW2⟩ : ∃ W2 : World, W2 = wr.alloc (.cells #[.int .i64 z0, .int .i64 z1] 41) := ⟨_, rfl⟩
   rw [← hW2]
   have Bz : Below wr.heap.size wr W2 := by rw [hW2]; exact below_alloc (Below.refl _ _) _
   have kcl := (Bz.cell (World.block_lt_of_cell? wr _ hcl)).trans hcl
   have ky1 := (Bz.cell (World.block_lt_of_cell? wr _ hy1)).trans hy1
   have ky2 := (Bz.cell (World.block_lt_of_cell? wr _ hy2)).trans hy2
   have kn0 : W2.cell? ⟨wr.heap.size, 0, none⟩ = some (.int .i64 z0) := by rw [hW2]; exact (blk_cell (blk_new wr _) 0).trans rfl
   have kn1 : W2.cell? ⟨wr.heap.size, 1, none⟩ = some (.int .i64 z1) := by rw [hW2]; exact (blk_cell (blk_new wr _) 1).trans rfl
   have HB2 := Aside0.mk (show Below W.heap.size W W2 by rw [hW2]; exact below_alloc HB.out _)
   clear HB Bz hcl hy1 hy2 hx0 hx1 hW2
   have HB := HB2
   clear HB2
   have hX3 : impl_size.f (wrap64 (wrap64 (rd_T33 l z0).f1 - wrap64 (rd_T33 l z1).f1)) = some x := HX2.out
   have HX3 := Aside0.mk hX3
   clear hX3
   have key : ∀ n : Nat, Calls Try.prog 40 #[.int .i64 (IntKind.i64.wrap (IntKind.i64.wrap (rd_T33 l z0).f1 - IntKind.i64.wrap (rd_T33 l z1).f1))] (W2.drewN n) fun e w' => e = .returned (.int .i64 x) ∧ ∃ m, w' = W2.drewN m := fun n => by
    simp only [impl_MatchSingles_1.wr64]
    exact Calls.quiet_of ((impl_MatchSingles_1.size _ x (W2.drewN n) HX3.out).mono (fun _ _ q => ⟨q.1, q.2.out⟩))
   go_quiet (first | exact key _)
   go_wp2
   go_roundg g1
   case measure => omega
   case rel => exact ⟨kk + 1, wrap64 (s + x), by omega, (by have := HN63.out; first | rfl | (congr 1; unfold wrap64; omega) | (simp; unfold wrap64; omega)), (by first | rfl | rw [impl_MatchSingles_1.wr64]), HS2, ⟨zb HB.out⟩⟩
 · obtain rfl : kk = ps.length := by omega
   have hS := HS.out
   rw [List.drop_of_length_le (Nat.le_refl _), impl_MatchSingles_1.sum] at hS
   obtain rfl := Option.some.inj hS
   clear hS HS
   have c3b0 : decide ((ps.length : Int) < (ps.length : Int)) = false := decide_eq_false (by omega)
   have HI2 := Aside0.mk (HI.out.next HB.out)
   have HP2 := Aside0.mk (Kd.R_below HP.out HB.out)
   have hcm : wr.cell? ⟨gm, 0, none⟩ = some (.int .i64 m) := (blk_cell HI2.out.hm 0).trans rfl
   have hcb : wr.cell? ⟨gb, 0, none⟩ = some vB := (blk_cell HI2.out.hb 0).trans rfl
   have hfm := blk_frozen HI2.out.hm 0
   have hfb := blk_frozen HI2.out.hb 0
   have hgm : wr.heap[gm]? = some (.cells #[.int .i64 m] 2 (0, 0)) := HI2.out.hm
   have n3 := HI2.out.nd.2.2
   have hh := HF.out
   by_cases c1 : m < 0
   · rw [if_pos (Or.inl c1)] at hh
     simp only [Option.some.injEq, Prod.mk.injEq] at hh
     obtain ⟨rfl, rfl⟩ := hh
     have c1b : decide (m < 0) = true := decide_eq_true c1
     clear c1
     go_wp2
     refine bodyPost_end (results_none rfl _ _ _) rfl ⟨rfl, ⟨_, (HI2.out.best HP2.out _).1⟩, (impl_MatchSingles_1.Fr.of_below HB.out).trans (HI2.out.best HP2.out _).2⟩
   have c1b : decide (m < 0) = false := decide_eq_false c1
   by_cases c2 : s < m
   · rw [if_pos (Or.inr c2)] at hh
     simp only [Option.some.injEq, Prod.mk.injEq] at hh
     obtain ⟨rfl, rfl⟩ := hh
     have c2b : decide (s < m) = true := decide_eq_true c2
     clear c1 c2
     go_wp2
     refine bodyPost_end (results_none rfl _ _ _) rfl ⟨rfl, ⟨_, (HI2.out.best HP2.out _).1⟩, (impl_MatchSingles_1.Fr.of_below HB.out).trans (HI2.out.best HP2.out _).2⟩
   rw [if_neg (fun z => z.elim c1 c2)] at hh
   simp only [Option.some.injEq, Prod.mk.injEq] at hh
   obtain ⟨rfl, rfl⟩ := hh
   have c2b : decide (s < m) = false := decide_eq_false c2
   clear c1 c2
   go_wp2
   refine bodyPost_end (results_none rfl _ _ _) rfl ⟨rfl, ⟨_, HI2.out⟩, impl_MatchSingles_1.Fr.of_below HB.out⟩

-- NOT PRINTED: function 67 (slices_Grow_int64_int64)

/-! ### slices_Concat_int64_int64: function 59 -/
def slices_Grow.lays_ren : Go.Shelf.Ren := ⟨fun | 4 => 67 | n => n, fun | 22 => 46 | 25 => 2 | 3 => 3 | 4 => 4 | 9 => 9 | 20 => 20 | 0 => 0 | n => n, fun n => n⟩
theorem slices_Grow.lays : Lays8.n4 Try.prog slices_Grow.lays_ren where
  mixed := by kernel_rfl
  f4 := Exists.intro "slices.Grow[[]int64,int64]" ⟨of_decide_eq_true (by kernel_rfl), Try.func67.trans (congrArg some (by kernel_rfl))⟩
  t0 := Try.underlying0
  a0 := Try.isAgg0
  z0 := Try.sizeOf0
  v0 := Try.zeroValue0
  t3 := Try.underlying3
  a3 := Try.isAgg3
  z3 := Try.sizeOf3
  v3 := Try.zeroValue3
  t4 := Try.underlying4
  a4 := Try.isAgg4
  z4 := Try.sizeOf4
  v4 := Try.zeroValue4
  t9 := Try.underlying9
  a9 := Try.isAgg9
  z9 := Try.sizeOf9
  v9 := Try.zeroValue9
  t20 := Try.underlying20
  a20 := Try.isAgg20
  z20 := Try.sizeOf20
  v20 := Try.zeroValue20
  t22 := Try.underlying46
  a22 := Try.isAgg46
  z22 := Try.sizeOf46
  v22 := Try.zeroValue46
/-- slices.Grow of no list: a row of the call's own, of no length. -/
theorem slices_Grow.nil (n : Nat) (w : World) (hn : n ≤ 1000) :
    Calls Try.prog 67 #[.slice none 0 0, .int .i64 n] w fun e w' => ∃ v, e = .returned v ∧ Kd.R (Kd.int .i64) 2 w' w.heap.size (fun k => w.heap.size ≤ k) v ([] : List Int) ∧ Below w.heap.size w w' := by
  rcases Nat.eq_zero_or_pos n with rfl | hp
  · refine (Any8.slices_Grow_room slices_Grow.lays none 0 0 0 w (by omega) (by omega) (by omega) (by omega)).mono ?_
    rintro e w' ⟨rfl, rfl⟩
    exact ⟨_, rfl, Kd.R_nil _ _ _ _ _, Below.refl _ _⟩
  · obtain ⟨i0, hi, hzz⟩ := Option.map_eq_some_iff.1 info2
    simp only [Prod.mk.injEq] at hzz
    obtain ⟨hz0, hz1, hz2⟩ := hzz
    refine (Any8.slices_Grow_grow slices_Grow.lays i0 (.int .i64 0) hi hz0 (by omega) none 0 0 n [] w (by omega) (by omega) (by rw [hz2]; omega) (by omega) (by simp) (fun _ => rfl) (fun a h => by cases h)).mono ?_
    rintro e w' ⟨rfl, rfl⟩
    have ht : slices_Grow.lays_ren.t 25 = 2 := rfl
    rw [ht]
    have h1 := grownCap_ge w (0 + n) 0 2
    have h2 := grownCap_le_maxLen w (0 + n) 0 2 (by simp only [maxLen]; omega)
    refine ⟨_, rfl, ⟨fun k hk => ?_, [], ⟨rfl, Or.inr ⟨w.heap.size, _, _, rfl, Nat.le_refl _, blk_new w.drew _, Nat.zero_le _, h2, ?_, rfl⟩⟩, Reps.none _ _⟩, below_alloc (below_drew (Below.refl _ _)) _⟩
    · have e : w.heap.size = k := by simpa [Value.ownBlock] using hk
      omega
    · have e1 : (Kd.int .i64).sz = 1 := rfl
      rw [Nat.zero_add] at h1
      simp only [Array.size_append, size_zeroCells, Value.cells, e1, Nat.zero_add, Nat.sub_zero, List.size_toArray, List.length_nil, Array.size_singleton, List.length_cons, Nat.mul_one]
      omega
set_option maxHeartbeats 4000000 in
set_option maxRecDepth 100000 in
/-- slices.Concat of two lists of numbers. -/
theorem slices_Concat.two (xs ys : List Int) (A : Addr) (A1 A2 : Option Addr) (c1 c2 : Nat) (w : World) (hx : w.cell? A = some (.slice A1 xs.length c1)) (hy : w.cell? ⟨A.block, A.off + 1, none⟩ = some (.slice A2 ys.length c2)) (h1 : Kd.C (Kd.int .i64) w A1 xs.length xs) (h2 : Kd.C (Kd.int .i64) w A2 ys.length ys) (hl : xs.length + ys.length ≤ 1000) :
    Calls Try.prog 59 #[.slice (some A) 2 2] w fun e w' => ∃ v, e = .returned v ∧ Kd.R (Kd.int .i64) 2 w' w.heap.size (fun k => w.heap.size ≤ k) v (xs ++ ys) ∧ Below w.heap.size w w' := by
  have H1 := Aside0.mk h1
  have H2 := Aside0.mk h2
  have HXY := Aside0.mk (And.intro hx hy)
  have HL := Aside0.mk hl
  clear h1 h2 hx hy hl
  go_enter Try.func59, Try.ntmps59
  go_wp2
  go_loopg [3, 11] 2 (fun gg v3 v11 wr => ∃ (kk : Nat) (s : Int), kk + gg = 2 ∧ v11 = .int .i64 (kk : Int) ∧ v3 = .int .i64 s ∧ wr = w ∧ Aside0 ((kk = 0 → s = 0) ∧ (kk = 1 → s = (xs.length : Int)) ∧ (kk = 2 → s = (xs.length : Int) + (ys.length : Int))))
  case atStart => exact ⟨0, 0, by omega, rfl, rfl, rfl, ⟨fun _ => rfl, fun z => absurd z (by omega), fun z => absurd z (by omega)⟩⟩
  case round =>
    obtain ⟨kk, s, hkk, rfl, rfl, hww, HE⟩ := hrel
    replace hww := hww.symm
    subst hww
    rcases (by omega : kk = 0 ∨ kk = 1 ∨ kk = 2) with rfl | rfl | rfl
    · obtain rfl : gk = 1 + 1 := by omega
      have es := HE.out.1 rfl
      subst es
      have hw0 : wrap64 (xs.length : Int) = (xs.length : Int) := by have := HL.out; unfold wrap64; omega
      have hz0 : decide ((xs.length : Int) < 0) = false := decide_eq_false (by omega)
      have hx := HXY.out.1
      go_wp2
      go_roundg 1
      case measure => omega
      case rel => exact ⟨1, (xs.length : Int), by omega, rfl, (by first | rfl | rw [hw0]), rfl, ⟨fun z => absurd z (by omega), fun _ => rfl, fun z => absurd z (by omega)⟩⟩
    · obtain rfl : gk = 0 + 1 := by omega
      have es := HE.out.2.1 rfl
      subst es
      have hw0 : wrap64 ((xs.length : Int) + (ys.length : Int)) = (xs.length : Int) + (ys.length : Int) := by have := HL.out; unfold wrap64; omega
      have hz0 : decide ((xs.length : Int) + (ys.length : Int) < 0) = false := decide_eq_false (by omega)
      have hy := HXY.out.2
      go_wp2
      go_roundg 0
      case measure => omega
      case rel => exact ⟨2, (xs.length : Int) + (ys.length : Int), by omega, rfl, (by first | rfl | rw [hw0]), rfl, ⟨fun z => absurd z (by omega), fun z => absurd z (by omega), fun _ => rfl⟩⟩
    · have es := HE.out.2.2 rfl
      have es2 : s = ((xs.length + ys.length : Nat) : Int) := by omega
      clear es HE
      subst es2
      go_wp2_with (go_at_call 67; refine (slices_Grow.nil (xs.length + ys.length) w HL.out).mono ?_; rintro e w1 ⟨v, rfl, hr, hb⟩)
      have HR := Aside0.mk hr
      have HB := Aside0.mk hb
      clear hr hb
      go_loopg [6, 27] 2 (fun gg v6 v27 w' => ∃ (kk : Nat) (v : Value) (zs : List Int), kk + gg = 2 ∧ v27 = .int .i64 (kk : Int) ∧ v6 = v ∧ Aside0 (Kd.R (Kd.int .i64) 2 w' w.heap.size (fun k => w.heap.size ≤ k) v zs) ∧ Aside0 (Below w.heap.size w w') ∧ Aside0 ((kk = 0 → zs = []) ∧ (kk = 1 → zs = xs) ∧ (kk = 2 → zs = xs ++ ys)))
      case atStart => exact ⟨0, v, [], by omega, rfl, rfl, HR, HB, ⟨fun _ => rfl, fun z => absurd z (by omega), fun z => absurd z (by omega)⟩⟩
      case round =>
        clear HR HB
        obtain ⟨kk, v, zs, hkk, rfl, rfl, HR, HB, HE⟩ := hrel
        rcases (by omega : kk = 0 ∨ kk = 1 ∨ kk = 2) with rfl | rfl | rfl
        · obtain rfl : gk = 1 + 1 := by omega
          have ez := HE.out.1 rfl
          subst ez
          have hx : wr.cell? A = some (.slice A1 xs.length c1) := (HB.out.cell (World.block_lt_of_cell? w _ HXY.out.1)).trans HXY.out.1
          go_wp2_with (at_builtin; refine Kd.R_append_rows (Kd.int .i64) (w0 := w) w.heap.size rfl (.tmp 31) (.tmp 32) 46 2 (.int .i64 0) 8 rfl Try.underlying46 info2 rfl (by decide) (by omega) _ [] xs A1 _ _ (fun k => w.heap.size ≤ k) (fun _ => False) rfl rfl ?aO ?aR (fun _ _ h => h) (fun _ h => h.elim) ?aF ?aB ?aS ?aL ?_)
          case aO => exact HR.out
          case aR => exact Kd.C_below H1.out HB.out
          case aF => exact fun k hk => Nat.le_trans (below_size HB.out) hk
          case aB => exact HB.out
          case aS => exact below_size HB.out
          case aL => have := HL.out; simp; omega
          intro v1 w3 ho hb hg hat
          have HR2 := Aside0.mk ho
          have HB2 := Aside0.mk hb
          clear ho hb hg hat
          go_wp2
          go_roundg 1
          case measure => omega
          case rel => exact ⟨1, v1, _, by omega, rfl, rfl, HR2, HB2, ⟨fun z => absurd z (by omega), fun _ => rfl, fun z => absurd z (by omega)⟩⟩
        · obtain rfl : gk = 0 + 1 := by omega
          have ez := (HE.out.2.1 rfl).symm
          subst ez
          have hx : wr.cell? ⟨A.block, A.off + 1, none⟩ = some (.slice A2 ys.length c2) := (HB.out.cell (World.block_lt_of_cell? w _ HXY.out.2)).trans HXY.out.2
          go_wp2_with (at_builtin; refine Kd.R_append_rows (Kd.int .i64) (w0 := w) w.heap.size rfl (.tmp 31) (.tmp 32) 46 2 (.int .i64 0) 8 rfl Try.underlying46 info2 rfl (by decide) (by omega) _ xs ys A2 _ _ (fun k => w.heap.size ≤ k) (fun _ => False) rfl rfl ?aO ?aR (fun _ _ h => h) (fun _ h => h.elim) ?aF ?aB ?aS ?aL ?_)
          case aO => exact HR.out
          case aR => exact Kd.C_below H2.out HB.out
          case aF => exact fun k hk => Nat.le_trans (below_size HB.out) hk
          case aB => exact HB.out
          case aS => exact below_size HB.out
          case aL => have := HL.out; simp; omega
          intro v1 w3 ho hb hg hat
          have HR2 := Aside0.mk ho
          have HB2 := Aside0.mk hb
          clear ho hb hg hat
          go_wp2
          go_roundg 0
          case measure => omega
          case rel => exact ⟨2, v1, _, by omega, rfl, rfl, HR2, HB2, ⟨fun z => absurd z (by omega), fun z => absurd z (by omega), fun _ => rfl⟩⟩
        · have ez := HE.out.2.2 rfl
          subst ez
          obtain ⟨Ao, co, eo⟩ := Kd.R_slice HR.out
          subst eo
          go_wp2
          go_ret
          exact ⟨_, rfl, by simpa using HR.out, HB.out⟩
/-- Two lists, one behind the other. -/
def slices_Concat.f (a : List Int) : Option (List Int) := some a


/-! ### slices_Clone_2_int64_2_int64: function 60 -/
@[reducible] def slices_Clone_2_int64_2_int64.f (l0 : List S41) : Option (List S41) := if l0.length * 16 ≤ 140737488355328 then some l0 else none
set_option maxHeartbeats 2000000 in
set_option maxRecDepth 100000 in
theorem slices_Clone_2_int64_2_int64.calls (A0 : Option Addr) (c0 : Nat) (l0 : List S41) (r : List S41) (w : World) (hr0 : Kd.C k41 w A0 l0.length l0) (hc0 : l0.length ≤ c0) (h : slices_Clone_2_int64_2_int64.f l0 = some r) :
    Calls Try.prog 60 #[.slice A0 l0.length c0] w fun e w' => ∃ v0_ : Value, e = .returned (v0_) ∧ Kd.R k41 41 w' w.heap.size (fun _ => True) v0_ r ∧ Below w.heap.size w w' := by
 have h : (if l0.length * 16 ≤ 140737488355328 then some l0 else none) = some r := h
 by_cases hlen : l0.length * 16 ≤ 140737488355328
 rotate_left
 · rw [if_neg hlen] at h; cases h
 rw [if_pos hlen] at h
 obtain rfl := Option.some.inj h
 have HR := Aside0.mk hr0
 have HC := Aside0.mk hc0
 have HL := Aside0.mk hlen
 clear h hr0 hc0 hlen
 have qn : ∀ (w : World) (a : Option Addr) (n c n' c' : Nat), (binOp .eql 36 (.slice a n c) (.slice none n' c')).run Try.prog w = .ok (.bool a.isNone) w := fun w a n c n' c' => Lib.run_eql_slice_nil w _ _ a n c n' c' Try.underlying36
 rcases A0 with _ | ad
 · have hn : l0 = [] := by
    have h1 := HR.out
    rcases l0 with _ | ⟨x, l⟩
    · rfl
    · obtain ⟨ad, h, _⟩ := h1.2.2 (by simp)
      cases h
   subst hn
   go_enter Try.func60, Try.ntmps60
   go_wp2
   go_ret
   exact ⟨_, rfl, Kd.R_nil _ _ _ _ _, Below.refl _ w⟩
 · go_enter Try.func60, Try.ntmps60
   go_wp2_with (at_builtin; refine Kd.R_append_rows k41 (w0 := w) w.heap.size rfl _ _ 36 41 (.agg #[(.int .i64 0), (.int .i64 0)]) 16 rfl Try.underlying36 (by kernel_rfl) rfl (by decide) (by omega) _ [] l0 _ _ _ (fun _ => True) (fun _ => False) rfl rfl ?aO ?aR (fun _ _ h => h) (fun _ h => h.elim) ?aF ?aB ?aS ?aL ?_)
   case aO => exact ⟨fun _ _ => trivial, [], World.ownsRow_made w #[] 0 (Nat.le_refl _) (Nat.zero_le _) rfl, Reps.none _ _⟩
   case aR => exact Kd.C_alloc HR.out _
   case aF => exact fun _ _ => trivial
   case aB => exact (Below.refl _ w).alloc (Nat.le_refl _) _
   case aS => simp
   case aL => have := HL.out; simpa using this
   intro v1 w1 ho hb hg hat
   have HO := Aside0.mk ho
   have HB := Aside0.mk hb
   clear ho hb hg hat
   go_wp2
   go_ret
   exact ⟨v1, rfl, by simpa using HO.out, HB.out⟩

end Go.Proofs.Ythfanjdbemoaaaa.XFnPlies
