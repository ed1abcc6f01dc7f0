/- The functions that the law FnPlies reaches: each as a Lean function, and that its call does what that function says; no conditions. -/
import Derived.Test.YthfanjdbemoaaaaXFnPliesx0
import Derived.Test.YthfanjdbemoaaaaXFnPliesx4
import Derived.Test.YthfanjdbemoaaaaXFnPliesx5
namespace Go.Proofs.Ythfanjdbemoaaaa.XFnPlies
open Go.RowKit Go.Proofs.YthfanjdbemoaaaaW.PrintWords Go.Proofs.YthfanjdbemoaaaaW.PrintLast Go.Proofs.YthfanjdbemoaaaaW.PrintMore
attribute [local go_sem] max2_int min2_int max_two min_two max_three min_three max_four min_four   -- for this text's walks alone
set_option linter.unusedVariables false
set_option linter.unusedSimpArgs false

/-! ### spec_l01Common: function 69 -/
def spec_l01Common.l0 : Nat → Int → Int → Option (Int)
  | 0, _, _ => none
  | k + 1, x0, x1 => if x1 > 0 then (if x1 = 0 then (none) else (spec_l01Common.l0 k x1 (Int.tmod x0 x1))) else (some x0)
def spec_l01Common.f (k : Nat) (a0 : Int) (a1 : Int) : Option (Int) := spec_l01Common.l0 k a0 a1
theorem spec_l01Common.mono_l : ∀ k, (∀ y0 y1, LeO (spec_l01Common.l0 k y0 y1) (spec_l01Common.l0 (k + 1) y0 y1))
  | 0 => fun _ _ r h => by simp [spec_l01Common.l0] at h
  | k + 1 => by
    have ih0 := spec_l01Common.mono_l k
    · intro y0 y1
      unfold spec_l01Common.l0
      repeat' first
      | (with_reducible exact ih0 _ _)
      | (with_reducible exact LeO.refl _)
      | (with_reducible exact LeO.none _)
      | (with_reducible refine LeO.ite ?_ ?_)
      | (with_reducible refine LeO.bind ?_ (fun _ => ?_))
      | (with_reducible refine allG_mono _ (fun _ => ?_))
      | (with_reducible refine idxG_mono _ (fun _ => ?_))
      | exact ih0 _ _
      | exact LeO.none _
      | refine LeO.ite ?_ ?_
      | refine LeO.bind ?_ (fun _ => ?_)
theorem spec_l01Common.mono : ∀ a0 a1 k, LeO (spec_l01Common.f k a0 a1) (spec_l01Common.f (k + 1) a0 a1) := by
  intro a0 a1 k
  have ih0 := spec_l01Common.mono_l k
  unfold spec_l01Common.f
  repeat' first
      | (with_reducible exact ih0 _ _)
      | (with_reducible exact LeO.refl _)
      | (with_reducible exact LeO.none _)
      | (with_reducible refine LeO.ite ?_ ?_)
      | (with_reducible refine LeO.bind ?_ (fun _ => ?_))
      | (with_reducible refine allG_mono _ (fun _ => ?_))
      | (with_reducible refine idxG_mono _ (fun _ => ?_))
      | exact ih0 _ _
      | exact LeO.none _
      | refine LeO.ite ?_ ?_
      | refine LeO.bind ?_ (fun _ => ?_)
set_option maxHeartbeats 8000000 in
set_option maxRecDepth 100000 in
theorem spec_l01Common.calls (k : Nat) (a0 : Int) (a1 : Int) (r : Int) (w : World) (h : spec_l01Common.f k a0 a1 = some r) :
    Calls Try.prog 69 #[.int .i64 a0, .int .i64 a1] w fun e w' => e = .returned (.int .i64 r) ∧ Drawn0 w w' := by
 have H : (spec_l01Common.l0 k a0 a1) = some r := h
 clear h
 have H' := Aside0.mk H
 clear H
 go_enter Try.func69, Try.ntmps69
 go_wp2
 go_loopg [0, 1] k (fun kq v0 v1 w' => ∃ (x0_1 : Int) (x1_1 : Int), v0 = .int .i64 x0_1 ∧ v1 = .int .i64 x1_1 ∧ Aside0 (spec_l01Common.l0 kq x0_1 x1_1 = some r) ∧ Aside0 (kq ≤ k) ∧ Drawn0 w w')
 case atStart => exact ⟨(a0), (a1), zx, zx, H', ⟨Nat.le_refl _⟩, by repeat (first | exact Drawn0.refl _ | apply Drawn0.step)⟩
 case round =>
 clear H'
 try clear p2
 obtain ⟨x0_1, x1_1, rfl, rfl, HA, HK1, ⟨m1, rfl⟩⟩ := hrel
 cases gk with
 | zero => exact absurd HA.out (by simp [spec_l01Common.l0])
 | succ k1 =>
  have H := HA.out
  clear HA
  simp only [spec_l01Common.l0] at H
  by_cases c3 : x1_1 > 0
  rotate_left
  · rw [if_neg c3] at H
    have c3b0 : decide (0 < x1_1) = false := decide_eq_false c3
    clear c3
    obtain rfl := Option.some.inj H
    go_wp2
    go_ret
    exact ⟨zx, by repeat (first | exact Drawn0.refl _ | apply Drawn0.step)⟩
  rw [if_pos c3] at H
  have c3b0 : decide (0 < x1_1) = true := decide_eq_true c3
  clear c3
  by_cases c4 : x1_1 = 0
  · rw [if_pos c4] at H
    exact absurd H (by simp)
  rw [if_neg c4] at H
  have c4b0 : (x1_1 == 0) = false := beq_eq_false_iff_ne.mpr c4
  have c4b1 : (x1_1 != 0) = true := bne_iff_ne.mpr c4
  have H' := Aside0.mk H
  clear H
  go_wp2
  go_roundg k1
  case measure => have := HK1.out; omega
  case rel => exact ⟨(x1_1), (Int.tmod x0_1 x1_1), zx, zx, H', ⟨by have := HK1.out; omega⟩, by repeat (first | exact Drawn0.refl _ | apply Drawn0.step)⟩

/-! ### spec_l01Make: function 63 -/
def spec_l01Make.f (k : Nat) (a0 : Int) (a1 : Int) : Option (Int × Int) := (spec_l00Max.f a0 (wrap64 (-a0))).bind fun t256 => ((spec_l01Common.f k t256 a1).bind fun t257 => (if t257 = 0 then (none) else (some (wrap64 (Int.tdiv a0 t257), wrap64 (Int.tdiv a1 t257)))))
theorem spec_l01Make.mono : ∀ a0 a1 k, LeO (spec_l01Make.f k a0 a1) (spec_l01Make.f (k + 1) a0 a1) := by
  intro a0 a1 k
  unfold spec_l01Make.f
  repeat' first
      | (with_reducible exact spec_l01Common.mono _ _ _)
      | (with_reducible exact LeO.refl _)
      | (with_reducible exact LeO.none _)
      | (with_reducible refine LeO.ite ?_ ?_)
      | (with_reducible refine LeO.bind ?_ (fun _ => ?_))
      | (with_reducible refine allG_mono _ (fun _ => ?_))
      | (with_reducible refine idxG_mono _ (fun _ => ?_))
      | exact spec_l01Common.mono _ _ _
      | exact LeO.none _
      | refine LeO.ite ?_ ?_
      | refine LeO.bind ?_ (fun _ => ?_)
def spec_l01Make.T2 : Bool × List (List Nat × List Nat) := (true, [([], []), ([], []), ([0, 1], [0, 1]), ([], []), ([], []), ([3, 4], [3, 4]), ([2, 5], [2, 5]), ([6, 0, 1, 2, 3, 4, 5, 6], [6])])
def spec_l01Make.B2 : List Nat := [0, 0, 3, 0, 0, 24, 63, 127]
theorem spec_l01Make.tab2 : rtab .any (opsOf Try.f63 2) = spec_l01Make.T2 := by kernel_rfl
theorem spec_l01Make.bits2 : waitsOk spec_l01Make.T2.2 spec_l01Make.B2 = true := by kernel_rfl
set_option maxHeartbeats 8000000 in
set_option maxRecDepth 100000 in
theorem spec_l01Make.calls (k : Nat) (a0 : Int) (a1 : Int) (r1 : Int) (r2 : Int) (w : World) (h : spec_l01Make.f k a0 a1 = some (r1, r2)) :
    Calls Try.prog 63 #[.int .i64 a0, .int .i64 a1] w fun e w' => e = .returned (.agg #[.int .i64 r1, .int .i64 r2]) ∧ Below w.heap.size w w' := by
 have hu43 := Try.underlying43
 have HB := Aside0.mk (Below.refl w.heap.size w)
 have H : ((spec_l00Max.f a0 (wrap64 (-a0))).bind fun t256 => ((spec_l01Common.f k t256 a1).bind fun t257 => (if t257 = 0 then (none) else (some (wrap64 (Int.tdiv a0 t257), wrap64 (Int.tdiv a1 t257)))))) = some (r1, r2) := h
 clear h
 replace H := Option.bind_eq_some_iff.mp H
 obtain ⟨t256, A30, H⟩ := H
 replace H : ((spec_l01Common.f k t256 a1).bind fun t257 => (if t257 = 0 then (none) else (some (wrap64 (Int.tdiv a0 t257), wrap64 (Int.tdiv a1 t257))))) = some (r1, r2) := H
 have A3 := Aside0.mk A30
 clear A30
 replace H := Option.bind_eq_some_iff.mp H
 obtain ⟨t257, A40, H⟩ := H
 replace H : (if t257 = 0 then (none) else (some (wrap64 (Int.tdiv a0 t257), wrap64 (Int.tdiv a1 t257)))) = some (r1, r2) := H
 have A4 := Aside0.mk A40
 clear A40
 by_cases c5 : t257 = 0
 · rw [if_pos c5] at H
   exact absurd H (by simp)
 rw [if_neg c5] at H
 have c5b0 : (t257 == 0) = false := beq_eq_false_iff_ne.mpr c5
 have c5b1 : (t257 != 0) = true := bne_iff_ne.mpr c5
 simp only [Option.some.injEq, Prod.mk.injEq] at H
 obtain ⟨rfl, rfl⟩ := H
 go_enter Try.func63, Try.ntmps63
 try go_wp2_with (first | ((with_reducible refine gate_dst (N := 4) rfl ?_); refine box_event ?hg (N := 4) ?hd (cs := #[.int .i64 0, .int .i64 0]) (t := 43) ?hr ?_; (case hd => rfl); (case hg => rfl); (case hr => first | (go_simp; done) | (go_simp; rfl)); intro gb255 hg w6 hbox hb; refine up4 (below_step (zb HB.out) hb) (hbox) ((by rw [hg]; exact (below_size (zb HB.out)) : w.heap.size ≤ gb255)) ((by rw [hg]; exact (below_size (zb HB.out)) : w.heap.size ≤ gb255)) ?_; clear HB; intro HB BK255 GW255 GE255; clear hb hbox hg) | ((with_reducible refine gate_callee (f := 64) rfl ?_); refine goesL_ (some 9) rfl rfl Try.func64 (by kernel_rfl) rfl #[.int .i64 a0, .int .i64 (wrap64 (-a0))] rfl zr ?_; (with_reducible refine (spec_l00Max.calls a0 (wrap64 (-a0)) t256 _ A3.out).mono ?_); rintro e w' ⟨rfl, ⟨nd, rfl⟩⟩; refine ⟨_, rfl, ?_⟩; (try (rw [drewN_self w6]; generalize hq_ : World.drewN w6 _ = w6; refine up2 (show w6.heap[gb255]? = some (.cells #[.int .i64 0, .int .i64 0] 43 (0, 0)) from by rw [← hq_]; exact (zq BK255.out)) (show Below w.heap.size w w6 from by rw [← hq_]; exact (zb1 HB.out GE255.out)) ?_; clear BK255 HB hq_; intro BK255 HB))) | ((with_reducible refine gate_callee (f := 69) rfl ?_); refine goesL_ (some 11) rfl rfl Try.func69 (by kernel_rfl) rfl #[.int .i64 t256, .int .i64 a1] rfl zr ?_; (with_reducible refine (spec_l01Common.calls k t256 a1 t257 _ A4.out).mono ?_); rintro e w' ⟨rfl, ⟨nd, rfl⟩⟩; refine ⟨_, rfl, ?_⟩; (try (rw [drewN_self w6]; generalize hq_ : World.drewN w6 _ = w6; refine up2 (show w6.heap[gb255]? = some (.cells #[.int .i64 0, .int .i64 0] 43 (0, 0)) from by rw [← hq_]; exact (zq BK255.out)) (show Below w.heap.size w w6 from by rw [← hq_]; exact (zb1 HB.out GE255.out)) ?_; clear BK255 HB hq_; intro BK255 HB))))
 refine up2 (blk_drew BK255.out) (below_drew1 HB.out) ?_
 clear BK255 HB
 intro BK255 HB
 refine start_ (n := 8) (S := fun w' => True) (ds := []) #[false, false, false, false, false, false, false, false] (by kernel_rfl) rfl rfl trivial (fun hHeld => ?_); refine with_tabW spec_l01Make.tab2 spec_l01Make.bits2 (fun HT_ HW_ => ?_)
 generalize w6.drew = w7 at BK255 HB hHeld ⊢
 refine pure_ (i := 0) (N := some 12) #[true, false, false, false, false, false, false, false] rfl rfl (any_of HT_.out (by kernel_rfl)) (fun _ _ _ h => h) (Or.inl ⟨by rfl, zy⟩) za ?_
 refine pure_ (i := 1) (N := some 13) #[true, true, false, false, false, false, false, false] rfl rfl (any_of HT_.out (by kernel_rfl)) (fun _ _ _ h => h) (Or.inl ⟨by rfl, zy⟩) za ?_
 refine pure_ (i := 2) (N := some 14) #[true, true, true, false, false, false, false, false] rfl rfl (any_of HT_.out (by kernel_rfl)) (fun _ _ _ h => h) (Or.inl ⟨by rfl, zy⟩) za ?_
 refine pure_ (i := 3) (N := some 15) #[true, true, true, true, false, false, false, false] rfl rfl (any_of HT_.out (by kernel_rfl)) (fun _ _ _ h => h) (Or.inl ⟨by rfl, zy⟩) za ?_
 refine pure_ (i := 4) (N := some 16) #[true, true, true, true, true, false, false, false] rfl rfl (any_of HT_.out (by kernel_rfl)) (fun _ _ _ h => h) (Or.inl ⟨by rfl, zy⟩) za ?_
 refine pure_ (i := 5) (N := some 17) #[true, true, true, true, true, true, false, false] rfl rfl (any_of HT_.out (by kernel_rfl)) (fun _ _ _ h => h) (Or.inl ⟨by rfl, zy⟩) za ?_
 refine pure_ (i := 6) (N := some 18) #[true, true, true, true, true, true, true, false] rfl rfl (any_of HT_.out (by kernel_rfl)) (fun _ _ _ h => h) (Or.inl ⟨by rfl, zy⟩) za ?_
 refine one_ (i := 7) (N := none) #[true, true, true, true, true, true, true, true] rfl rfl (one_of HT_.out (by kernel_rfl)) (by decide) (fun K hK => ?_)
 have hs8 : w7.cell? ⟨gb255, 0, none⟩ = some (.int .i64 0) := (blk_cell BK255.out 0).trans rfl
 have hfs8 := blk_frozen BK255.out 0
 have hs9 : w7.cell? ⟨gb255, 1, none⟩ = some (.int .i64 0) := (blk_cell BK255.out 1).trans rfl
 have hfs9 := blk_frozen BK255.out 1
 refine skip_ (w1 := ?_) (by rfl) rfl ?_ ?_
 rotate_left
 · go_simp
   rfl
 refine hK.out _ _ trivial (fun hHeld => ?_)
 clear hK K
 refine done_ (done_of HT_.out (by kernel_rfl)) ?_
 try go_wp2
 refine bodyPost_ret (results_cell_row rfl _ _ gb255 43 #[.int .i64 (wrap64 (Int.tdiv a0 t257)), .int .i64 (wrap64 (Int.tdiv a1 t257))] (0, 0) _ rfl (by (with_reducible repeat (first | refine blk_drewN ?_ _ | refine blk_drew ?_ | refine blk_alloc ?_ _)); refine blk_put (cs := #[.int .i64 (wrap64 (Int.tdiv a0 t257)), .int .i64 0]) ?_ 1 _ rfl; (with_reducible repeat (first | refine blk_drewN ?_ _ | refine blk_drew ?_ | refine blk_alloc ?_ _)); refine blk_put (cs := #[.int .i64 0, .int .i64 0]) ?_ 0 _ rfl; (with_reducible repeat (first | refine blk_drewN ?_ _ | refine blk_drew ?_ | refine blk_alloc ?_ _)); exact BK255.out) Try.underlying43 rfl (by kernel_rfl)) rfl ?_
 exact ⟨zs, zb1 HB.out GE255.out⟩

/-! ### spec_l03Ratio: function 44 -/
def spec_l03Ratio.f (k : Nat) (a0 : Int) (a1 : Int) : Option (Int × Int) := (spec_l01Make.f k a0 a1).bind fun bt259 => (some (bt259.1, bt259.2))
theorem spec_l03Ratio.mono : ∀ a0 a1 k, LeO (spec_l03Ratio.f k a0 a1) (spec_l03Ratio.f (k + 1) a0 a1) := by
  intro a0 a1 k
  unfold spec_l03Ratio.f
  repeat' first
      | (with_reducible exact spec_l01Make.mono _ _ _)
      | (with_reducible exact LeO.refl _)
      | (with_reducible exact LeO.none _)
      | (with_reducible refine LeO.ite ?_ ?_)
      | (with_reducible refine LeO.bind ?_ (fun _ => ?_))
      | (with_reducible refine allG_mono _ (fun _ => ?_))
      | (with_reducible refine idxG_mono _ (fun _ => ?_))
      | exact spec_l01Make.mono _ _ _
      | exact LeO.none _
      | refine LeO.ite ?_ ?_
      | refine LeO.bind ?_ (fun _ => ?_)
set_option maxHeartbeats 8000000 in
set_option maxRecDepth 100000 in
theorem spec_l03Ratio.calls (k : Nat) (a0 : Int) (a1 : Int) (r1 : Int) (r2 : Int) (w : World) (h : spec_l03Ratio.f k a0 a1 = some (r1, r2)) :
    Calls Try.prog 44 #[.int .i64 a0, .int .i64 a1] w fun e w' => e = .returned (.agg #[.int .i64 r1, .int .i64 r2]) ∧ Below w.heap.size w w' := by
 have hu43 := Try.underlying43
 have HB := Aside0.mk (Below.refl w.heap.size w)
 have H : ((spec_l01Make.f k a0 a1).bind fun bt259 => (some (bt259.1, bt259.2))) = some (r1, r2) := h
 clear h
 replace H := Option.bind_eq_some_iff.mp H
 obtain ⟨⟨t259, t260⟩, A30, H⟩ := H
 replace H : (some (t259, t260)) = some (r1, r2) := H
 have A3 := Aside0.mk A30
 clear A30
 simp only [Option.some.injEq, Prod.mk.injEq] at H
 obtain ⟨rfl, rfl⟩ := H
 go_enter Try.func44, Try.ntmps44
 go_wp2_with (first | ((with_reducible refine gate_dst (N := 4) rfl ?_); refine box_event ?hg (N := 4) ?hd (cs := #[.int .i64 0, .int .i64 0]) (t := 43) ?hr ?_; (case hd => rfl); (case hg => rfl); (case hr => first | (go_simp; done) | (go_simp; rfl)); intro gb258 hg w4 hbox hb; refine up4 (below_step (zb HB.out) hb) (hbox) ((by rw [hg]; exact (below_size (zb HB.out)) : w.heap.size ≤ gb258)) ((by rw [hg]; exact (below_size (zb HB.out)) : w.heap.size ≤ gb258)) ?_; clear HB; intro HB BK258 GW258 GE258; clear hb hbox hg) | ((with_reducible refine gate_callee (f := 63) rfl ?_); refine goesL_ (some 7) rfl rfl Try.func63 (by kernel_rfl) rfl #[.int .i64 a0, .int .i64 a1] rfl zr ?_; (with_reducible refine (spec_l01Make.calls k a0 a1 t259 t260 _ A3.out).mono ?_); rintro e w5 ⟨rfl, hb⟩; refine ⟨_, rfl, ?_⟩; refine up2 (blk_below (g := gb258) (o := .cells #[.int .i64 0, .int .i64 0] 43 (0, 0)) (zq BK258.out) hb) (below_step (zb1 HB.out GE258.out) hb) ?_; clear BK258 HB; intro BK258 HB; (try clear hb); (try clear hb2); (try clear hk); (try clear hi); have hcz6_0 : w5.cell? ⟨gb258, 0, none⟩ = some (.int .i64 0) := (blk_cell BK258.out 0).trans rfl; have hcz6_1 : w5.cell? ⟨gb258, 1, none⟩ = some (.int .i64 0) := (blk_cell BK258.out 1).trans rfl; have hfz6_0 := blk_frozen BK258.out 0; have hfz6_1 := blk_frozen BK258.out 1))
 refine bodyPost_ret (results_cell_row rfl _ _ gb258 43 #[.int .i64 t259, .int .i64 t260] (0, 0) _ rfl (by (with_reducible repeat (first | refine blk_drewN ?_ _ | refine blk_drew ?_ | refine blk_alloc ?_ _)); refine blk_put (cs := #[.int .i64 t259, .int .i64 0]) ?_ 1 _ rfl; (with_reducible repeat (first | refine blk_drewN ?_ _ | refine blk_drew ?_ | refine blk_alloc ?_ _)); refine blk_put (cs := #[.int .i64 0, .int .i64 0]) ?_ 0 _ rfl; (with_reducible repeat (first | refine blk_drewN ?_ _ | refine blk_drew ?_ | refine blk_alloc ?_ _)); exact BK258.out) Try.underlying43 rfl (by kernel_rfl)) rfl ?_
 exact ⟨zs, zb1 HB.out GE258.out⟩

end Go.Proofs.Ythfanjdbemoaaaa.XFnPlies
