/- The functions that the law FnExactFrogTo reaches: each as a Lean function, and that its call does what that function says; no conditions. -/
import Derived.Test.YtfkckobfpfkbjaaXFnExactFrogTox0
import Derived.Test.YtfkckobfpfkbjaaXFnExactFrogTox1
import Derived.Test.YtfkckobfpfkbjaaXFnExactFrogTox2
import Derived.Test.YtfkckobfpfkbjaaXFnExactFrogTox4
import Derived.Test.YtfkckobfpfkbjaaXFnExactFrogTox5
namespace Go.Proofs.Ytfkckobfpfkbjaa.XFnExactFrogTo
open Go.RowKit Go.Proofs.YtfkckobfpfkbjaaW.PrintWords Go.Proofs.YtfkckobfpfkbjaaW.PrintLast Go.Proofs.YtfkckobfpfkbjaaW.PrintMore
attribute [local go_sem] max2_int min2_int max_two min_two max_three min_three max_four min_four   -- for this text's walks alone
set_option linter.unusedVariables false
set_option linter.unusedSimpArgs false

/-! ### laws_FnExactFrogTo: function 11 -/
mutual
def laws_FnExactFrogTo.j0 : Nat → Int → Int → Int → Int → Int → Int → Bool → Int → List ByteArray → Int → List ByteArray → Int → List ByteArray → Int → List ByteArray → Option (Bool)
  | 0, _, _, _, _, _, _, _, _, _, _, _, _, _, _, _ => none
  | k + 1, x1, x2, x9, x10, x13, x14, x58, x213000, x213001, x225000, x225001, x230000, x230001, x237000, x237001 => if x58 = true then (none) else ((laws_toFabric.f k x213000 x213001).bind fun bt238 => ((laws_eqFabric.f k x230000 x230001 bt238.1 bt238.2).bind fun t242 => (if t242 = true then ((laws_markFabric.f k x230000 x230001 1).bind fun bt243 => (if bt243.1 < 0 then (laws_FnExactFrogTo.j1 k x1 x2 x9 x10 true x213000 x213001 x225000 x225001 x237000 x237001) else ((laws_eqFabric.f k x237000 x237001 x225000 x225001).bind fun t245 => (if t245 = true then (if x13 = x9 then (laws_FnExactFrogTo.j1 k x1 x2 x9 x10 (x14 != x10) x213000 x213001 x225000 x225001 x237000 x237001) else (laws_FnExactFrogTo.j1 k x1 x2 x9 x10 true x213000 x213001 x225000 x225001 x237000 x237001)) else (laws_FnExactFrogTo.j1 k x1 x2 x9 x10 true x213000 x213001 x225000 x225001 x237000 x237001))))) else (none))))
def laws_FnExactFrogTo.j1 : Nat → Int → Int → Int → Int → Bool → Int → List ByteArray → Int → List ByteArray → Int → List ByteArray → Option (Bool)
  | 0, _, _, _, _, _, _, _, _, _, _, _ => none
  | k + 1, x1, x2, x9, x10, x84, x213000, x213001, x225000, x225001, x237000, x237001 => if x84 = true then (none) else ((laws_markFabric.f k x237000 x237001 1).bind fun bt246 => ((laws_heldFabric.f k x237000 bt246.2 1).bind fun t248 => (if t248 < 0 then (none) else (if t248 = bt246.1 then ((laws_toFabric.f k x213000 x213001).bind fun bt249 => ((impl_FrogTo.f k bt249.1 bt249.2 x1 x2).bind fun bt253 => ((laws_eqFabric.f k bt253.1 bt253.2.1 x225000 x225001).bind fun t260 => (if t260 = true then (if bt253.2.2.1 = x9 then (laws_FnExactFrogTo.j2 k bt246.1 (bt253.2.2.2 != x10) x237000 bt246.2) else (laws_FnExactFrogTo.j2 k bt246.1 true x237000 bt246.2)) else (laws_FnExactFrogTo.j2 k bt246.1 true x237000 bt246.2))))) else (none)))))
def laws_FnExactFrogTo.j2 : Nat → Int → Bool → Int → List ByteArray → Option (Bool)
  | 0, _, _, _, _ => none
  | k + 1, x16, x118, x237000, x237001 => if x118 = true then (none) else ((laws_heldFabric.f k x237000 x237001 1).bind fun t261 => (if t261 < 0 then (none) else (if t261 = x16 then (some true) else (none))))
end
def laws_FnExactFrogTo.f (k : Nat) (a0_0 : Int) (l0_1 : List ByteArray) (a1 : Int) (a2 : Int) : Option (Bool) := (laws_szFabric.f k a0_0 l0_1 1048576).bind fun t213 => (if t213 < 0 then (some true) else ((laws_toFabric.f k a0_0 l0_1).bind fun bt214 => ((spec_FrogTo.f k bt214.1 bt214.2 a1 a2).bind fun bt218 => ((laws_toFabric.f k a0_0 l0_1).bind fun bt225 => ((impl_FrogTo.f k bt225.1 bt225.2 a1 a2).bind fun bt230 => ((laws_eqFabric.f k bt230.1 bt230.2.1 bt218.1 bt218.2.1).bind fun t237 => (if t237 = true then (if bt230.2.2.1 = bt218.2.2.1 then (laws_FnExactFrogTo.j0 k a1 a2 bt218.2.2.1 bt218.2.2.2 bt230.2.2.1 bt230.2.2.2 (bt230.2.2.2 != bt218.2.2.2) a0_0 l0_1 bt218.1 bt218.2.1 bt225.1 bt225.2 bt230.1 bt230.2.1) else (laws_FnExactFrogTo.j0 k a1 a2 bt218.2.2.1 bt218.2.2.2 bt230.2.2.1 bt230.2.2.2 true a0_0 l0_1 bt218.1 bt218.2.1 bt225.1 bt225.2 bt230.1 bt230.2.1)) else (laws_FnExactFrogTo.j0 k a1 a2 bt218.2.2.1 bt218.2.2.2 bt230.2.2.1 bt230.2.2.2 true a0_0 l0_1 bt218.1 bt218.2.1 bt225.1 bt225.2 bt230.1 bt230.2.1))))))))
theorem laws_FnExactFrogTo.mono_l : ∀ k, (∀ y0 y1 y2 y3 y4 y5 y6 y7 y8 y9 y10 y11 y12 y13 y14, LeO (laws_FnExactFrogTo.j0 k y0 y1 y2 y3 y4 y5 y6 y7 y8 y9 y10 y11 y12 y13 y14) (laws_FnExactFrogTo.j0 (k + 1) y0 y1 y2 y3 y4 y5 y6 y7 y8 y9 y10 y11 y12 y13 y14)) ∧ (∀ y0 y1 y2 y3 y4 y5 y6 y7 y8 y9 y10, LeO (laws_FnExactFrogTo.j1 k y0 y1 y2 y3 y4 y5 y6 y7 y8 y9 y10) (laws_FnExactFrogTo.j1 (k + 1) y0 y1 y2 y3 y4 y5 y6 y7 y8 y9 y10)) ∧ (∀ y0 y1 y2 y3, LeO (laws_FnExactFrogTo.j2 k y0 y1 y2 y3) (laws_FnExactFrogTo.j2 (k + 1) y0 y1 y2 y3))
  | 0 => ⟨fun _ _ _ _ _ _ _ _ _ _ _ _ _ _ _ r h => by simp [laws_FnExactFrogTo.j0] at h, fun _ _ _ _ _ _ _ _ _ _ _ r h => by simp [laws_FnExactFrogTo.j1] at h, fun _ _ _ _ r h => by simp [laws_FnExactFrogTo.j2] at h⟩
  | k + 1 => by
    obtain ⟨ih0, ih1, ih2⟩ := laws_FnExactFrogTo.mono_l k
    refine ⟨?_, ?_, ?_⟩
    · intro y0 y1 y2 y3 y4 y5 y6 y7 y8 y9 y10 y11 y12 y13 y14
      unfold laws_FnExactFrogTo.j0
      repeat' first
      | (with_reducible exact ih0 _ _ _ _ _ _ _ _ _ _ _ _ _ _ _)
      | (with_reducible exact ih1 _ _ _ _ _ _ _ _ _ _ _)
      | (with_reducible exact ih2 _ _ _ _)
      | (with_reducible exact impl_FrogTo.mono _ _ _ _ _)
      | (with_reducible exact laws_eqFabric.mono _ _ _ _ _)
      | (with_reducible exact laws_heldFabric.mono _ _ _ _)
      | (with_reducible exact laws_markFabric.mono _ _ _ _)
      | (with_reducible exact laws_szFabric.mono _ _ _ _)
      | (with_reducible exact laws_toFabric.mono _ _ _)
      | (with_reducible exact spec_FrogTo.mono _ _ _ _ _)
      | (with_reducible exact LeO.refl _)
      | (with_reducible exact LeO.none _)
      | (with_reducible refine LeO.ite ?_ ?_)
      | (with_reducible refine LeO.bind ?_ (fun _ => ?_))
      | exact ih0 _ _ _ _ _ _ _ _ _ _ _ _ _ _ _
      | exact ih1 _ _ _ _ _ _ _ _ _ _ _
      | exact ih2 _ _ _ _
      | exact impl_FrogTo.mono _ _ _ _ _
      | exact laws_eqFabric.mono _ _ _ _ _
      | exact laws_heldFabric.mono _ _ _ _
      | exact laws_markFabric.mono _ _ _ _
      | exact laws_szFabric.mono _ _ _ _
      | exact laws_toFabric.mono _ _ _
      | exact spec_FrogTo.mono _ _ _ _ _
      | exact LeO.none _
      | refine LeO.ite ?_ ?_
      | refine LeO.bind ?_ (fun _ => ?_)
    · intro y0 y1 y2 y3 y4 y5 y6 y7 y8 y9 y10
      unfold laws_FnExactFrogTo.j1
      repeat' first
      | (with_reducible exact ih0 _ _ _ _ _ _ _ _ _ _ _ _ _ _ _)
      | (with_reducible exact ih1 _ _ _ _ _ _ _ _ _ _ _)
      | (with_reducible exact ih2 _ _ _ _)
      | (with_reducible exact impl_FrogTo.mono _ _ _ _ _)
      | (with_reducible exact laws_eqFabric.mono _ _ _ _ _)
      | (with_reducible exact laws_heldFabric.mono _ _ _ _)
      | (with_reducible exact laws_markFabric.mono _ _ _ _)
      | (with_reducible exact laws_szFabric.mono _ _ _ _)
      | (with_reducible exact laws_toFabric.mono _ _ _)
      | (with_reducible exact spec_FrogTo.mono _ _ _ _ _)
      | (with_reducible exact LeO.refl _)
      | (with_reducible exact LeO.none _)
      | (with_reducible refine LeO.ite ?_ ?_)
      | (with_reducible refine LeO.bind ?_ (fun _ => ?_))
      | exact ih0 _ _ _ _ _ _ _ _ _ _ _ _ _ _ _
      | exact ih1 _ _ _ _ _ _ _ _ _ _ _
      | exact ih2 _ _ _ _
      | exact impl_FrogTo.mono _ _ _ _ _
      | exact laws_eqFabric.mono _ _ _ _ _
      | exact laws_heldFabric.mono _ _ _ _
      | exact laws_markFabric.mono _ _ _ _
      | exact laws_szFabric.mono _ _ _ _
      | exact laws_toFabric.mono _ _ _
      | exact spec_FrogTo.mono _ _ _ _ _
      | exact LeO.none _
      | refine LeO.ite ?_ ?_
      | refine LeO.bind ?_ (fun _ => ?_)
    · intro y0 y1 y2 y3
      unfold laws_FnExactFrogTo.j2
      repeat' first
      | (with_reducible exact ih0 _ _ _ _ _ _ _ _ _ _ _ _ _ _ _)
      | (with_reducible exact ih1 _ _ _ _ _ _ _ _ _ _ _)
      | (with_reducible exact ih2 _ _ _ _)
      | (with_reducible exact impl_FrogTo.mono _ _ _ _ _)
      | (with_reducible exact laws_eqFabric.mono _ _ _ _ _)
      | (with_reducible exact laws_heldFabric.mono _ _ _ _)
      | (with_reducible exact laws_markFabric.mono _ _ _ _)
      | (with_reducible exact laws_szFabric.mono _ _ _ _)
      | (with_reducible exact laws_toFabric.mono _ _ _)
      | (with_reducible exact spec_FrogTo.mono _ _ _ _ _)
      | (with_reducible exact LeO.refl _)
      | (with_reducible exact LeO.none _)
      | (with_reducible refine LeO.ite ?_ ?_)
      | (with_reducible refine LeO.bind ?_ (fun _ => ?_))
      | exact ih0 _ _ _ _ _ _ _ _ _ _ _ _ _ _ _
      | exact ih1 _ _ _ _ _ _ _ _ _ _ _
      | exact ih2 _ _ _ _
      | exact impl_FrogTo.mono _ _ _ _ _
      | exact laws_eqFabric.mono _ _ _ _ _
      | exact laws_heldFabric.mono _ _ _ _
      | exact laws_markFabric.mono _ _ _ _
      | exact laws_szFabric.mono _ _ _ _
      | exact laws_toFabric.mono _ _ _
      | exact spec_FrogTo.mono _ _ _ _ _
      | exact LeO.none _
      | refine LeO.ite ?_ ?_
      | refine LeO.bind ?_ (fun _ => ?_)
theorem laws_FnExactFrogTo.mono : ∀ a0 a1 a2 a3 k, LeO (laws_FnExactFrogTo.f k a0 a1 a2 a3) (laws_FnExactFrogTo.f (k + 1) a0 a1 a2 a3) := by
  intro a0 a1 a2 a3 k
  obtain ⟨ih0, ih1, ih2⟩ := laws_FnExactFrogTo.mono_l k
  unfold laws_FnExactFrogTo.f
  repeat' first
      | (with_reducible exact ih0 _ _ _ _ _ _ _ _ _ _ _ _ _ _ _)
      | (with_reducible exact ih1 _ _ _ _ _ _ _ _ _ _ _)
      | (with_reducible exact ih2 _ _ _ _)
      | (with_reducible exact impl_FrogTo.mono _ _ _ _ _)
      | (with_reducible exact laws_eqFabric.mono _ _ _ _ _)
      | (with_reducible exact laws_heldFabric.mono _ _ _ _)
      | (with_reducible exact laws_markFabric.mono _ _ _ _)
      | (with_reducible exact laws_szFabric.mono _ _ _ _)
      | (with_reducible exact laws_toFabric.mono _ _ _)
      | (with_reducible exact spec_FrogTo.mono _ _ _ _ _)
      | (with_reducible exact LeO.refl _)
      | (with_reducible exact LeO.none _)
      | (with_reducible refine LeO.ite ?_ ?_)
      | (with_reducible refine LeO.bind ?_ (fun _ => ?_))
      | exact ih0 _ _ _ _ _ _ _ _ _ _ _ _ _ _ _
      | exact ih1 _ _ _ _ _ _ _ _ _ _ _
      | exact ih2 _ _ _ _
      | exact impl_FrogTo.mono _ _ _ _ _
      | exact laws_eqFabric.mono _ _ _ _ _
      | exact laws_heldFabric.mono _ _ _ _
      | exact laws_markFabric.mono _ _ _ _
      | exact laws_szFabric.mono _ _ _ _
      | exact laws_toFabric.mono _ _ _
      | exact spec_FrogTo.mono _ _ _ _ _
      | exact LeO.none _
      | refine LeO.ite ?_ ?_
      | refine LeO.bind ?_ (fun _ => ?_)
set_option maxHeartbeats 8000000 in
set_option maxRecDepth 100000 in
theorem laws_FnExactFrogTo.calls (k : Nat) (a0_0 : Int) (A0_1 : Option Addr) (c0_1 : Nat) (l0_1 : List ByteArray) (a1 : Int) (a2 : Int) (r : Bool) (w : World) (hr0_1 : Kd.C Kd.string w A0_1 l0_1.length l0_1) (hc0_1 : l0_1.length ≤ c0_1) (h : laws_FnExactFrogTo.f k a0_0 l0_1 a1 a2 = some r) :
    Calls Try.prog 11 #[.agg #[.int .i16 a0_0, .slice A0_1 l0_1.length c0_1], .int .i64 a1, .int .i64 a2] w fun e w' => e = .returned (.bool r) ∧ Below w.heap.size w w' := by
  have hu55 := Try.underlying55
  have hu57 := Try.underlying57
  have HR0_1 := Aside0.mk hr0_1
  have HC0_1 := Aside0.mk hc0_1
  clear hr0_1 hc0_1
  have HB := Aside0.mk (Below.refl w.heap.size w)
  have H : ((laws_szFabric.f k a0_0 l0_1 1048576).bind fun t213 => (if t213 < 0 then (some true) else ((laws_toFabric.f k a0_0 l0_1).bind fun bt214 => ((spec_FrogTo.f k bt214.1 bt214.2 a1 a2).bind fun bt218 => ((laws_toFabric.f k a0_0 l0_1).bind fun bt225 => ((impl_FrogTo.f k bt225.1 bt225.2 a1 a2).bind fun bt230 => ((laws_eqFabric.f k bt230.1 bt230.2.1 bt218.1 bt218.2.1).bind fun t237 => (if t237 = true then (if bt230.2.2.1 = bt218.2.2.1 then (laws_FnExactFrogTo.j0 k a1 a2 bt218.2.2.1 bt218.2.2.2 bt230.2.2.1 bt230.2.2.2 (bt230.2.2.2 != bt218.2.2.2) a0_0 l0_1 bt218.1 bt218.2.1 bt225.1 bt225.2 bt230.1 bt230.2.1) else (laws_FnExactFrogTo.j0 k a1 a2 bt218.2.2.1 bt218.2.2.2 bt230.2.2.1 bt230.2.2.2 true a0_0 l0_1 bt218.1 bt218.2.1 bt225.1 bt225.2 bt230.1 bt230.2.1)) else (laws_FnExactFrogTo.j0 k a1 a2 bt218.2.2.1 bt218.2.2.2 bt230.2.2.1 bt230.2.2.2 true a0_0 l0_1 bt218.1 bt218.2.1 bt225.1 bt225.2 bt230.1 bt230.2.1))))))))) = some r := h
  clear h
  replace H := Option.bind_eq_some_iff.mp H
  obtain ⟨t213, A40, H⟩ := H
  replace H : (if t213 < 0 then (some true) else ((laws_toFabric.f k a0_0 l0_1).bind fun bt214 => ((spec_FrogTo.f k bt214.1 bt214.2 a1 a2).bind fun bt218 => ((laws_toFabric.f k a0_0 l0_1).bind fun bt225 => ((impl_FrogTo.f k bt225.1 bt225.2 a1 a2).bind fun bt230 => ((laws_eqFabric.f k bt230.1 bt230.2.1 bt218.1 bt218.2.1).bind fun t237 => (if t237 = true then (if bt230.2.2.1 = bt218.2.2.1 then (laws_FnExactFrogTo.j0 k a1 a2 bt218.2.2.1 bt218.2.2.2 bt230.2.2.1 bt230.2.2.2 (bt230.2.2.2 != bt218.2.2.2) a0_0 l0_1 bt218.1 bt218.2.1 bt225.1 bt225.2 bt230.1 bt230.2.1) else (laws_FnExactFrogTo.j0 k a1 a2 bt218.2.2.1 bt218.2.2.2 bt230.2.2.1 bt230.2.2.2 true a0_0 l0_1 bt218.1 bt218.2.1 bt225.1 bt225.2 bt230.1 bt230.2.1)) else (laws_FnExactFrogTo.j0 k a1 a2 bt218.2.2.1 bt218.2.2.2 bt230.2.2.1 bt230.2.2.2 true a0_0 l0_1 bt218.1 bt218.2.1 bt225.1 bt225.2 bt230.1 bt230.2.1)))))))) = some r := H
  have A4 := Aside0.mk A40
  clear A40
  by_cases c5 : t213 < 0
  · rw [if_pos c5] at H
    have c5b0 : decide (t213 < 0) = true := decide_eq_true c5
    clear c5
    obtain rfl := Option.some.inj H
    go_enter Try.func11, Try.ntmps11
    go_wp2_with (first | ((with_reducible refine gate_dst (N := 3) rfl ?_); refine box_event ?hg (N := 3) ?hd (cs := #[.int .i16 a0_0, .slice A0_1 l0_1.length c0_1]) (t := 55) ?hr ?_; (case hd => rfl); (case hg => rfl); (case hr => first | (go_simp; done) | (go_simp; rfl)); intro gb212 hg w6 hbox hb; have n0_ := Aside0.mk (below_step (by repeat (first | (with_reducible first | exact HB.out | apply below_alloc | apply pw_below_drewN | apply below_drew1) | exact HB.out)) hb); have n1_ := Aside0.mk (hbox); have n2_ := Aside0.mk ((by rw [hg]; exact (below_size (by repeat (first | (with_reducible first | exact HB.out | apply below_alloc | apply pw_below_drewN | apply below_drew1) | exact HB.out))) : w.heap.size ≤ gb212)); have n3_ := Aside0.mk ((by rw [hg]; exact (below_size (by repeat (first | (with_reducible first | exact HB.out | apply below_alloc | apply pw_below_drewN | apply below_drew1) | exact HB.out))) : w.heap.size ≤ gb212)); clear HB; have HB := n0_; have BK212 := n1_; have GW212 := n2_; have GE212 := n3_; clear n0_ n1_ n2_ n3_; clear hb hbox hg; have hcz7_0 : w6.cell? ⟨gb212, 0, none⟩ = some (.int .i16 a0_0) := (blk_cell BK212.out 0).trans rfl; have hcz7_1 : w6.cell? ⟨gb212, 1, none⟩ = some (.slice A0_1 l0_1.length c0_1) := (blk_cell BK212.out 1).trans rfl; have hfz7_0 := blk_frozen BK212.out 0; have hfz7_1 := blk_frozen BK212.out 1) | ((with_reducible refine gate_callee (f := 32) rfl ?_); refine goesL_ (some 23) rfl rfl Try.func32 (by kernel_rfl) rfl #[.agg #[.int .i16 a0_0, .slice A0_1 l0_1.length c0_1], .int .i64 1048576] rfl (by (try simp only [List.map_toArray, List.map_cons, List.map_nil]); first | done | rfl | (simp only [List.length_drop, List.length_take]; rfl)) ?_; (with_reducible refine (laws_szFabric.calls k a0_0 _ _ l0_1 1048576 t213 _ ?side1 ?side2 A4.out).mono ?_); (case side1 => repeat (first | exact (Kd.C_below HR0_1.out HB.out) | (with_reducible refine Kd.C_alloc ?_ _) | (with_reducible refine Kd.C_drewN ?_ _) | (with_reducible refine Kd.C_drew ?_))); (case side2 => exact HC0_1.out); rintro e w8 ⟨rfl, hb⟩; refine ⟨_, rfl, ?_⟩; have n0_ := Aside0.mk (blk_below (g := gb212) (o := .cells #[.int .i16 a0_0, .slice A0_1 l0_1.length c0_1] 55 (0, 0)) (by (with_reducible repeat (first | refine blk_drewN ?_ _ | refine blk_drew ?_ | refine blk_alloc ?_ _)); exact BK212.out) hb); have n1_ := Aside0.mk (below_step (by repeat (first | (with_reducible first | exact HB.out | apply below_alloc | apply pw_below_drewN | apply below_drew1 | refine below_set ?_ GE212.out) | exact HB.out)) hb); clear BK212; clear HB; have BK212 := n0_; have HB := n1_; clear n0_ n1_; (try clear hb); (try clear hb2); (try clear hk); (try clear hi)))
    go_ret
    exact ⟨by first | rfl | (simp [errW_none, errW_some] <;> rfl) | (simp [*, errW_none, errW_some] <;> rfl), by repeat (first | (with_reducible first | exact HB.out | apply below_alloc | apply pw_below_drewN | apply below_drew1 | refine below_set ?_ GE212.out) | exact HB.out)⟩
  · rw [if_neg c5] at H
    have c5b0 : decide (t213 < 0) = false := decide_eq_false c5
    clear c5
    replace H := Option.bind_eq_some_iff.mp H
    obtain ⟨⟨t214, t215⟩, A90, H⟩ := H
    replace H : ((spec_FrogTo.f k t214 t215 a1 a2).bind fun bt218 => ((laws_toFabric.f k a0_0 l0_1).bind fun bt225 => ((impl_FrogTo.f k bt225.1 bt225.2 a1 a2).bind fun bt230 => ((laws_eqFabric.f k bt230.1 bt230.2.1 bt218.1 bt218.2.1).bind fun t237 => (if t237 = true then (if bt230.2.2.1 = bt218.2.2.1 then (laws_FnExactFrogTo.j0 k a1 a2 bt218.2.2.1 bt218.2.2.2 bt230.2.2.1 bt230.2.2.2 (bt230.2.2.2 != bt218.2.2.2) a0_0 l0_1 bt218.1 bt218.2.1 bt225.1 bt225.2 bt230.1 bt230.2.1) else (laws_FnExactFrogTo.j0 k a1 a2 bt218.2.2.1 bt218.2.2.2 bt230.2.2.1 bt230.2.2.2 true a0_0 l0_1 bt218.1 bt218.2.1 bt225.1 bt225.2 bt230.1 bt230.2.1)) else (laws_FnExactFrogTo.j0 k a1 a2 bt218.2.2.1 bt218.2.2.2 bt230.2.2.1 bt230.2.2.2 true a0_0 l0_1 bt218.1 bt218.2.1 bt225.1 bt225.2 bt230.1 bt230.2.1)))))) = some r := H
    have A9 := Aside0.mk A90
    clear A90
    replace H := Option.bind_eq_some_iff.mp H
    obtain ⟨⟨t218, t219, t222, t223⟩, A100, H⟩ := H
    replace H : ((laws_toFabric.f k a0_0 l0_1).bind fun bt225 => ((impl_FrogTo.f k bt225.1 bt225.2 a1 a2).bind fun bt230 => ((laws_eqFabric.f k bt230.1 bt230.2.1 t218 t219).bind fun t237 => (if t237 = true then (if bt230.2.2.1 = t222 then (laws_FnExactFrogTo.j0 k a1 a2 t222 t223 bt230.2.2.1 bt230.2.2.2 (bt230.2.2.2 != t223) a0_0 l0_1 t218 t219 bt225.1 bt225.2 bt230.1 bt230.2.1) else (laws_FnExactFrogTo.j0 k a1 a2 t222 t223 bt230.2.2.1 bt230.2.2.2 true a0_0 l0_1 t218 t219 bt225.1 bt225.2 bt230.1 bt230.2.1)) else (laws_FnExactFrogTo.j0 k a1 a2 t222 t223 bt230.2.2.1 bt230.2.2.2 true a0_0 l0_1 t218 t219 bt225.1 bt225.2 bt230.1 bt230.2.1))))) = some r := H
    have A10 := Aside0.mk A100
    clear A100
    replace H := Option.bind_eq_some_iff.mp H
    obtain ⟨⟨t225, t226⟩, A110, H⟩ := H
    replace H : ((impl_FrogTo.f k t225 t226 a1 a2).bind fun bt230 => ((laws_eqFabric.f k bt230.1 bt230.2.1 t218 t219).bind fun t237 => (if t237 = true then (if bt230.2.2.1 = t222 then (laws_FnExactFrogTo.j0 k a1 a2 t222 t223 bt230.2.2.1 bt230.2.2.2 (bt230.2.2.2 != t223) a0_0 l0_1 t218 t219 t225 t226 bt230.1 bt230.2.1) else (laws_FnExactFrogTo.j0 k a1 a2 t222 t223 bt230.2.2.1 bt230.2.2.2 true a0_0 l0_1 t218 t219 t225 t226 bt230.1 bt230.2.1)) else (laws_FnExactFrogTo.j0 k a1 a2 t222 t223 bt230.2.2.1 bt230.2.2.2 true a0_0 l0_1 t218 t219 t225 t226 bt230.1 bt230.2.1)))) = some r := H
    have A11 := Aside0.mk A110
    clear A110
    replace H := Option.bind_eq_some_iff.mp H
    obtain ⟨⟨t230, t231, t234, t235⟩, A120, H⟩ := H
    replace H : ((laws_eqFabric.f k t230 t231 t218 t219).bind fun t237 => (if t237 = true then (if t234 = t222 then (laws_FnExactFrogTo.j0 k a1 a2 t222 t223 t234 t235 (t235 != t223) a0_0 l0_1 t218 t219 t225 t226 t230 t231) else (laws_FnExactFrogTo.j0 k a1 a2 t222 t223 t234 t235 true a0_0 l0_1 t218 t219 t225 t226 t230 t231)) else (laws_FnExactFrogTo.j0 k a1 a2 t222 t223 t234 t235 true a0_0 l0_1 t218 t219 t225 t226 t230 t231))) = some r := H
    have A12 := Aside0.mk A120
    clear A120
    have HC13 := Aside0.mk H
    clear H
    go_enter Try.func11, Try.ntmps11
    go_upto_region 8 with (first | ((with_reducible refine gate_dst (N := 3) rfl ?_); refine box_event ?hg (N := 3) ?hd (cs := #[.int .i16 a0_0, .slice A0_1 l0_1.length c0_1]) (t := 55) ?hr ?_; (case hd => rfl); (case hg => rfl); (case hr => first | (go_simp; done) | (go_simp; rfl)); intro gb212 hg w14 hbox hb; have n0_ := Aside0.mk (below_step (by repeat (first | (with_reducible first | exact HB.out | apply below_alloc | apply pw_below_drewN | apply below_drew1) | exact HB.out)) hb); have n1_ := Aside0.mk (hbox); have n2_ := Aside0.mk ((by rw [hg]; exact (below_size (by repeat (first | (with_reducible first | exact HB.out | apply below_alloc | apply pw_below_drewN | apply below_drew1) | exact HB.out))) : w.heap.size ≤ gb212)); have n3_ := Aside0.mk ((by rw [hg]; exact (below_size (by repeat (first | (with_reducible first | exact HB.out | apply below_alloc | apply pw_below_drewN | apply below_drew1) | exact HB.out))) : w.heap.size ≤ gb212)); clear HB; have HB := n0_; have BK212 := n1_; have GW212 := n2_; have GE212 := n3_; clear n0_ n1_ n2_ n3_; clear hb hbox hg; have hcz15_0 : w14.cell? ⟨gb212, 0, none⟩ = some (.int .i16 a0_0) := (blk_cell BK212.out 0).trans rfl; have hcz15_1 : w14.cell? ⟨gb212, 1, none⟩ = some (.slice A0_1 l0_1.length c0_1) := (blk_cell BK212.out 1).trans rfl; have hfz15_0 := blk_frozen BK212.out 0; have hfz15_1 := blk_frozen BK212.out 1) | ((with_reducible refine gate_callee (f := 32) rfl ?_); refine goesL_ (some 23) rfl rfl Try.func32 (by kernel_rfl) rfl #[.agg #[.int .i16 a0_0, .slice A0_1 l0_1.length c0_1], .int .i64 1048576] rfl (by (try simp only [List.map_toArray, List.map_cons, List.map_nil]); first | done | rfl | (simp only [List.length_drop, List.length_take]; rfl)) ?_; (with_reducible refine (laws_szFabric.calls k a0_0 _ _ l0_1 1048576 t213 _ ?side1 ?side2 A4.out).mono ?_); (case side1 => repeat (first | exact (Kd.C_below HR0_1.out HB.out) | (with_reducible refine Kd.C_alloc ?_ _) | (with_reducible refine Kd.C_drewN ?_ _) | (with_reducible refine Kd.C_drew ?_))); (case side2 => exact HC0_1.out); rintro e w16 ⟨rfl, hb⟩; refine ⟨_, rfl, ?_⟩; have n0_ := Aside0.mk (blk_below (g := gb212) (o := .cells #[.int .i16 a0_0, .slice A0_1 l0_1.length c0_1] 55 (0, 0)) (by (with_reducible repeat (first | refine blk_drewN ?_ _ | refine blk_drew ?_ | refine blk_alloc ?_ _)); exact BK212.out) hb); have n1_ := Aside0.mk (below_step (by repeat (first | (with_reducible first | exact HB.out | apply below_alloc | apply pw_below_drewN | apply below_drew1 | refine below_set ?_ GE212.out) | exact HB.out)) hb); clear BK212; clear HB; have BK212 := n0_; have HB := n1_; clear n0_ n1_; (try clear hb); (try clear hb2); (try clear hk); (try clear hi); have hcz17_0 : w16.cell? ⟨gb212, 0, none⟩ = some (.int .i16 a0_0) := (blk_cell BK212.out 0).trans rfl; have hcz17_1 : w16.cell? ⟨gb212, 1, none⟩ = some (.slice A0_1 l0_1.length c0_1) := (blk_cell BK212.out 1).trans rfl; have hfz17_0 := blk_frozen BK212.out 0; have hfz17_1 := blk_frozen BK212.out 1) | ((with_reducible refine gate_callee (f := 34) rfl ?_); refine goesL_ (some 28) rfl rfl Try.func34 (by kernel_rfl) rfl #[.agg #[.int .i16 a0_0, .slice A0_1 l0_1.length c0_1]] rfl (by (try simp only [List.map_toArray, List.map_cons, List.map_nil]); first | done | rfl | (simp only [List.length_drop, List.length_take]; rfl)) ?_; (with_reducible refine (laws_toFabric.calls k a0_0 _ _ l0_1 t214 t215 _ ?side1 ?side2 A9.out).mono ?_); (case side1 => repeat (first | exact (Kd.C_below HR0_1.out HB.out) | (with_reducible refine Kd.C_alloc ?_ _) | (with_reducible refine Kd.C_drewN ?_ _) | (with_reducible refine Kd.C_drew ?_))); (case side2 => exact HC0_1.out); rintro e w18 ⟨v216, rfl, ho0, hb⟩; refine ⟨_, rfl, ?_⟩; have n0_ := Aside0.mk (Kd.R_lower ho0 (below_size (by repeat (first | (with_reducible first | exact HB.out | apply below_alloc | apply pw_below_drewN | apply below_drew1 | refine below_set ?_ GE212.out) | exact HB.out)))); have n1_ := Aside0.mk (blk_below (g := gb212) (o := .cells #[.int .i16 a0_0, .slice A0_1 l0_1.length c0_1] 55 (0, 0)) (by (with_reducible repeat (first | refine blk_drewN ?_ _ | refine blk_drew ?_ | refine blk_alloc ?_ _)); exact BK212.out) hb); have n2_ := Aside0.mk (below_step (by repeat (first | (with_reducible first | exact HB.out | apply below_alloc | apply pw_below_drewN | apply below_drew1 | refine below_set ?_ GE212.out) | exact HB.out)) hb); clear BK212; clear HB; have HO217 := n0_; have BK212 := n1_; have HB := n2_; clear n0_ n1_ n2_; (try clear hb); (try clear hb2); (try clear hk); (try clear hi); (try clear ho0); obtain ⟨Ao19, co19, eo19⟩ := Kd.R_slice HO217.out; subst eo19) | ((with_reducible refine gate_callee (f := 50) rfl ?_); refine goesL_ (some 31) rfl rfl Try.func50 (by kernel_rfl) rfl #[.agg #[.int .i16 t214, .slice Ao19 t215.length co19], .int .i64 a1, .int .i64 a2] rfl (by (try simp only [List.map_toArray, List.map_cons, List.map_nil]); first | done | rfl | (simp only [List.length_drop, List.length_take]; rfl)) ?_; (with_reducible refine (spec_FrogTo.calls k t214 _ _ t215 a1 a2 t218 t219 t222 t223 _ ?side1 ?side2 A10.out).mono ?_); (case side1 => repeat (first | exact (Kd.R_reads' HO217.out).2.2 | (with_reducible refine Kd.C_alloc ?_ _) | (with_reducible refine Kd.C_drewN ?_ _) | (with_reducible refine Kd.C_drew ?_))); (case side2 => exact (Kd.R_reads' HO217.out).2.1); rintro e w20 ⟨v220, rfl, ho0, hb⟩; refine ⟨_, rfl, ?_⟩; have n0_ := Aside0.mk (Kd.R_elder' (by (with_reducible repeat (first | apply Kd.R_alloc | apply Kd.R_drewN | apply Kd.R_drew)); exact HO217.out) (Kd.R_base ho0) hb); have n1_ := Aside0.mk (Kd.R_lower (Kd.R_new' ho0 (Kd.R_lt (by (with_reducible repeat (first | apply Kd.R_alloc | apply Kd.R_drewN | apply Kd.R_drew)); exact HO217.out))) (below_size (by repeat (first | (with_reducible first | exact HB.out | apply below_alloc | apply pw_below_drewN | apply below_drew1 | refine below_set ?_ GE212.out) | exact HB.out)))); have n2_ := Aside0.mk (blk_below (g := gb212) (o := .cells #[.int .i16 a0_0, .slice A0_1 l0_1.length c0_1] 55 (0, 0)) (by (with_reducible repeat (first | refine blk_drewN ?_ _ | refine blk_drew ?_ | refine blk_alloc ?_ _)); exact BK212.out) hb); have n3_ := Aside0.mk (below_step (by repeat (first | (with_reducible first | exact HB.out | apply below_alloc | apply pw_below_drewN | apply below_drew1 | refine below_set ?_ GE212.out) | exact HB.out)) hb); clear HO217; clear BK212; clear HB; have HO217 := n0_; have HO221 := n1_; have BK212 := n2_; have HB := n3_; clear n0_ n1_ n2_ n3_; (try clear hb); (try clear hb2); (try clear hk); (try clear hi); (try clear ho0)) | ((with_reducible refine gate_dst (N := 8) rfl ?_); refine box_event ?hg (N := 8) ?hd (cs := #[.int .i16 0, .slice none 0 0]) (t := 57) ?hr ?_; (case hd => rfl); (case hg => rfl); (case hr => first | (go_simp; done) | (go_simp; rfl)); intro gb224 hg w21 hbox hb; have n0_ := Aside0.mk (Kd.R_below (by (with_reducible repeat (first | apply Kd.R_alloc | apply Kd.R_drewN | apply Kd.R_drew)); exact HO217.out) hb); have n1_ := Aside0.mk (Kd.R_below (by (with_reducible repeat (first | apply Kd.R_alloc | apply Kd.R_drewN | apply Kd.R_drew)); exact HO221.out) hb); have n2_ := Aside0.mk (blk_below (g := gb212) (o := .cells #[.int .i16 a0_0, .slice A0_1 l0_1.length c0_1] 55 (0, 0)) (by (with_reducible repeat (first | refine blk_drewN ?_ _ | refine blk_drew ?_ | refine blk_alloc ?_ _)); exact BK212.out) hb); have n3_ := Aside0.mk (below_step (by repeat (first | (with_reducible first | exact HB.out | apply below_alloc | apply pw_below_drewN | apply below_drew1 | refine below_set ?_ GE212.out) | exact HB.out)) hb); have n4_ := Aside0.mk (hbox); have n5_ := Aside0.mk ((by rw [hg]; exact (below_size (by repeat (first | (with_reducible first | exact HB.out | apply below_alloc | apply pw_below_drewN | apply below_drew1 | refine below_set ?_ GE212.out) | exact HB.out))) : w.heap.size ≤ gb224)); have n6_ := Aside0.mk ((by rw [hg]; exact (below_size (by repeat (first | (with_reducible first | exact HB.out | apply below_alloc | apply pw_below_drewN | apply below_drew1 | refine below_set ?_ GE212.out) | exact HB.out))) : w.heap.size ≤ gb224)); have n7_ := Aside0.mk ((by rw [hg]; exact Nat.ne_of_lt (blk_lt (g := gb212) (o := .cells #[.int .i16 a0_0, .slice A0_1 l0_1.length c0_1] 55 (0, 0)) (by (with_reducible repeat (first | refine blk_drewN ?_ _ | refine blk_drew ?_ | refine blk_alloc ?_ _)); exact BK212.out)) : gb212 ≠ gb224)); have n8_ := Aside0.mk ((by rw [hg]; exact Nat.ne_of_gt (blk_lt (g := gb212) (o := .cells #[.int .i16 a0_0, .slice A0_1 l0_1.length c0_1] 55 (0, 0)) (by (with_reducible repeat (first | refine blk_drewN ?_ _ | refine blk_drew ?_ | refine blk_alloc ?_ _)); exact BK212.out)) : gb224 ≠ gb212)); clear HO217; clear HO221; clear BK212; clear HB; have HO217 := n0_; have HO221 := n1_; have BK212 := n2_; have HB := n3_; have BK224 := n4_; have GW224 := n5_; have GE224 := n6_; have NB212_224 := n7_; have NB224_212 := n8_; clear n0_ n1_ n2_ n3_ n4_ n5_ n6_ n7_ n8_; clear hb hbox hg; have hnb22 := NB224_212.out; have hnc22 := NB212_224.out; have hcz23_0 : w21.cell? ⟨gb224, 0, none⟩ = some (.int .i16 0) := (blk_cell BK224.out 0).trans rfl; have hcz23_1 : w21.cell? ⟨gb224, 1, none⟩ = some (.slice none 0 0) := (blk_cell BK224.out 1).trans rfl; have hfz23_0 := blk_frozen BK224.out 0; have hfz23_1 := blk_frozen BK224.out 1; obtain ⟨Ao24, co24, eo24⟩ := Kd.R_slice HO221.out; subst eo24; have hcz25_0 : w21.cell? ⟨gb212, 0, none⟩ = some (.int .i16 a0_0) := (blk_cell BK212.out 0).trans rfl; have hcz25_1 : w21.cell? ⟨gb212, 1, none⟩ = some (.slice A0_1 l0_1.length c0_1) := (blk_cell BK212.out 1).trans rfl; have hfz25_0 := blk_frozen BK212.out 0; have hfz25_1 := blk_frozen BK212.out 1) | ((with_reducible refine gate_callee (f := 34) rfl ?_); refine goesL_ (some 36) rfl rfl Try.func34 (by kernel_rfl) rfl #[.agg #[.int .i16 a0_0, .slice A0_1 l0_1.length c0_1]] rfl (by (try simp only [List.map_toArray, List.map_cons, List.map_nil]); first | done | rfl | (simp only [List.length_drop, List.length_take]; rfl)) ?_; (with_reducible refine (laws_toFabric.calls k a0_0 _ _ l0_1 t225 t226 _ ?side1 ?side2 A11.out).mono ?_); (case side1 => exact Kd.C_below HR0_1.out (by repeat (first | (with_reducible first | exact HB.out | apply below_alloc | apply pw_below_drewN | apply below_drew1 | refine below_set ?_ GE212.out | refine below_set ?_ GE224.out) | exact HB.out))); (case side2 => exact HC0_1.out); rintro e w26 ⟨v227, rfl, ho0, hb⟩; refine ⟨_, rfl, ?_⟩; have n0_ := Aside0.mk (Kd.R_elder' (by (with_reducible repeat (first | apply Kd.R_alloc | apply Kd.R_drewN | apply Kd.R_drew)); exact (Kd.R_mono (Kd.R_far (p := ⟨gb224, 1, none⟩) (Kd.R_far (p := ⟨gb224, 0, none⟩) (Kd.R_types HO217.out BK224.out (by decide)) (fun _ hk => hk.2) (.int .i16 t218)) (fun _ hk => hk.2) (.slice Ao24 t219.length co24)) (fun _ h_ => h_.1))) (Kd.R_base ho0) hb); have n1_ := Aside0.mk (Kd.R_elder' (by (with_reducible repeat (first | apply Kd.R_alloc | apply Kd.R_drewN | apply Kd.R_drew)); exact (Kd.R_mono (Kd.R_far (p := ⟨gb224, 1, none⟩) (Kd.R_far (p := ⟨gb224, 0, none⟩) (Kd.R_types HO221.out BK224.out (by decide)) (fun _ hk => hk.2) (.int .i16 t218)) (fun _ hk => hk.2) (.slice Ao24 t219.length co24)) (fun _ h_ => h_.1))) (Kd.R_base ho0) hb); have n2_ := Aside0.mk (Kd.R_lower (Kd.R_new' (Kd.R_new' ho0 (Kd.R_lt (by (with_reducible repeat (first | apply Kd.R_alloc | apply Kd.R_drewN | apply Kd.R_drew)); exact (Kd.R_mono (Kd.R_far (p := ⟨gb224, 1, none⟩) (Kd.R_far (p := ⟨gb224, 0, none⟩) (Kd.R_types HO217.out BK224.out (by decide)) (fun _ hk => hk.2) (.int .i16 t218)) (fun _ hk => hk.2) (.slice Ao24 t219.length co24)) (fun _ h_ => h_.1))))) (Kd.R_lt (by (with_reducible repeat (first | apply Kd.R_alloc | apply Kd.R_drewN | apply Kd.R_drew)); exact (Kd.R_mono (Kd.R_far (p := ⟨gb224, 1, none⟩) (Kd.R_far (p := ⟨gb224, 0, none⟩) (Kd.R_types HO221.out BK224.out (by decide)) (fun _ hk => hk.2) (.int .i16 t218)) (fun _ hk => hk.2) (.slice Ao24 t219.length co24)) (fun _ h_ => h_.1))))) (below_size (by repeat (first | (with_reducible first | exact HB.out | apply below_alloc | apply pw_below_drewN | apply below_drew1 | refine below_set ?_ GE212.out | refine below_set ?_ GE224.out) | exact HB.out)))); have n3_ := Aside0.mk (blk_below (g := gb212) (o := .cells #[.int .i16 a0_0, .slice A0_1 l0_1.length c0_1] 55 (0, 0)) (by (with_reducible repeat (first | refine blk_drewN ?_ _ | refine blk_drew ?_ | refine blk_alloc ?_ _)); refine blk_far ?_ NB212_224.out _; (with_reducible repeat (first | refine blk_drewN ?_ _ | refine blk_drew ?_ | refine blk_alloc ?_ _)); refine blk_far ?_ NB212_224.out _; (with_reducible repeat (first | refine blk_drewN ?_ _ | refine blk_drew ?_ | refine blk_alloc ?_ _)); exact BK212.out) hb); have n4_ := Aside0.mk (blk_below (g := gb224) (o := .cells #[.int .i16 t218, .slice Ao24 t219.length co24] 57 (0, 0)) (by (with_reducible repeat (first | refine blk_drewN ?_ _ | refine blk_drew ?_ | refine blk_alloc ?_ _)); refine blk_put (cs := #[.int .i16 t218, .slice none 0 0]) ?_ 1 _ rfl; (with_reducible repeat (first | refine blk_drewN ?_ _ | refine blk_drew ?_ | refine blk_alloc ?_ _)); refine blk_put (cs := #[.int .i16 0, .slice none 0 0]) ?_ 0 _ rfl; (with_reducible repeat (first | refine blk_drewN ?_ _ | refine blk_drew ?_ | refine blk_alloc ?_ _)); exact BK224.out) hb); have n5_ := Aside0.mk (below_step (by repeat (first | (with_reducible first | exact HB.out | apply below_alloc | apply pw_below_drewN | apply below_drew1 | refine below_set ?_ GE212.out | refine below_set ?_ GE224.out) | exact HB.out)) hb); clear HO217; clear HO221; clear BK212; clear BK224; clear HB; have HO217 := n0_; have HO221 := n1_; have HO228 := n2_; have BK212 := n3_; have BK224 := n4_; have HB := n5_; clear n0_ n1_ n2_ n3_ n4_ n5_; (try clear hb); (try clear hb2); (try clear hk); (try clear hi); (try clear ho0)) | ((with_reducible refine gate_dst (N := 11) rfl ?_); refine box_event ?hg (N := 11) ?hd (cs := #[.int .i16 0, .slice none 0 0]) (t := 57) ?hr ?_; (case hd => rfl); (case hg => rfl); (case hr => first | (go_simp; done) | (go_simp; rfl)); intro gb229 hg w27 hbox hb; have n0_ := Aside0.mk (Kd.R_below (by (with_reducible repeat (first | apply Kd.R_alloc | apply Kd.R_drewN | apply Kd.R_drew)); exact HO217.out) hb); have n1_ := Aside0.mk (Kd.R_below (by (with_reducible repeat (first | apply Kd.R_alloc | apply Kd.R_drewN | apply Kd.R_drew)); exact HO221.out) hb); have n2_ := Aside0.mk (Kd.R_below (by (with_reducible repeat (first | apply Kd.R_alloc | apply Kd.R_drewN | apply Kd.R_drew)); exact HO228.out) hb); have n3_ := Aside0.mk (blk_below (g := gb212) (o := .cells #[.int .i16 a0_0, .slice A0_1 l0_1.length c0_1] 55 (0, 0)) (by (with_reducible repeat (first | refine blk_drewN ?_ _ | refine blk_drew ?_ | refine blk_alloc ?_ _)); exact BK212.out) hb); have n4_ := Aside0.mk (blk_below (g := gb224) (o := .cells #[.int .i16 t218, .slice Ao24 t219.length co24] 57 (0, 0)) (by (with_reducible repeat (first | refine blk_drewN ?_ _ | refine blk_drew ?_ | refine blk_alloc ?_ _)); exact BK224.out) hb); have n5_ := Aside0.mk (below_step (by repeat (first | (with_reducible first | exact HB.out | apply below_alloc | apply pw_below_drewN | apply below_drew1 | refine below_set ?_ GE212.out | refine below_set ?_ GE224.out) | exact HB.out)) hb); have n6_ := Aside0.mk (hbox); have n7_ := Aside0.mk ((by rw [hg]; exact (below_size (by repeat (first | (with_reducible first | exact HB.out | apply below_alloc | apply pw_below_drewN | apply below_drew1 | refine below_set ?_ GE212.out | refine below_set ?_ GE224.out) | exact HB.out))) : w.heap.size ≤ gb229)); have n8_ := Aside0.mk ((by rw [hg]; exact (below_size (by repeat (first | (with_reducible first | exact HB.out | apply below_alloc | apply pw_below_drewN | apply below_drew1 | refine below_set ?_ GE212.out | refine below_set ?_ GE224.out) | exact HB.out))) : w.heap.size ≤ gb229)); have n9_ := Aside0.mk ((by rw [hg]; exact Nat.ne_of_lt (blk_lt (g := gb212) (o := .cells #[.int .i16 a0_0, .slice A0_1 l0_1.length c0_1] 55 (0, 0)) (by (with_reducible repeat (first | refine blk_drewN ?_ _ | refine blk_drew ?_ | refine blk_alloc ?_ _)); exact BK212.out)) : gb212 ≠ gb229)); have n10_ := Aside0.mk ((by rw [hg]; exact Nat.ne_of_gt (blk_lt (g := gb212) (o := .cells #[.int .i16 a0_0, .slice A0_1 l0_1.length c0_1] 55 (0, 0)) (by (with_reducible repeat (first | refine blk_drewN ?_ _ | refine blk_drew ?_ | refine blk_alloc ?_ _)); exact BK212.out)) : gb229 ≠ gb212)); have n11_ := Aside0.mk ((by rw [hg]; exact Nat.ne_of_lt (blk_lt (g := gb224) (o := .cells #[.int .i16 t218, .slice Ao24 t219.length co24] 57 (0, 0)) (by (with_reducible repeat (first | refine blk_drewN ?_ _ | refine blk_drew ?_ | refine blk_alloc ?_ _)); exact BK224.out)) : gb224 ≠ gb229)); have n12_ := Aside0.mk ((by rw [hg]; exact Nat.ne_of_gt (blk_lt (g := gb224) (o := .cells #[.int .i16 t218, .slice Ao24 t219.length co24] 57 (0, 0)) (by (with_reducible repeat (first | refine blk_drewN ?_ _ | refine blk_drew ?_ | refine blk_alloc ?_ _)); exact BK224.out)) : gb229 ≠ gb224)); clear HO217; clear HO221; clear HO228; clear BK212; clear BK224; clear HB; have HO217 := n0_; have HO221 := n1_; have HO228 := n2_; have BK212 := n3_; have BK224 := n4_; have HB := n5_; have BK229 := n6_; have GW229 := n7_; have GE229 := n8_; have NB212_229 := n9_; have NB229_212 := n10_; have NB224_229 := n11_; have NB229_224 := n12_; clear n0_ n1_ n2_ n3_ n4_ n5_ n6_ n7_ n8_ n9_ n10_ n11_ n12_; clear hb hbox hg; have hnb28 := NB229_212.out; have hnc28 := NB212_229.out; have hnb29 := NB229_224.out; have hnc29 := NB224_229.out; have hcz30_0 : w27.cell? ⟨gb229, 0, none⟩ = some (.int .i16 0) := (blk_cell BK229.out 0).trans rfl; have hcz30_1 : w27.cell? ⟨gb229, 1, none⟩ = some (.slice none 0 0) := (blk_cell BK229.out 1).trans rfl; have hfz30_0 := blk_frozen BK229.out 0; have hfz30_1 := blk_frozen BK229.out 1; obtain ⟨Ao31, co31, eo31⟩ := Kd.R_slice HO228.out; subst eo31) | ((with_reducible refine gate_callee (f := 51) rfl ?_); refine goesL_ (some 41) rfl rfl Try.func51 (by kernel_rfl) rfl #[.agg #[.int .i16 t225, .slice Ao31 t226.length co31], .int .i64 a1, .int .i64 a2] rfl (by (try simp only [List.map_toArray, List.map_cons, List.map_nil]); first | done | rfl | (simp only [List.length_drop, List.length_take]; rfl)) ?_; (with_reducible refine (impl_FrogTo.calls k t225 _ _ t226 a1 a2 t230 t231 t234 t235 _ ?side1 ?side2 A12.out).mono ?_); (case side1 => refine (Kd.R_reads' (e := 9) (base := w.heap.size) (ok := fun k_ => ((True ∧ some k_ ≠ (.slice Ao19 t215.length co19 : Value).ownBlock) ∧ some k_ ≠ (.slice Ao24 t219.length co24 : Value).ownBlock)) (n := t226.length) (c := co31) ?_).2.2; exact (by (with_reducible repeat (first | apply Kd.R_alloc | apply Kd.R_drewN | apply Kd.R_drew)); exact (Kd.R_mono (Kd.R_far (p := ⟨gb229, 1, none⟩) (Kd.R_far (p := ⟨gb229, 0, none⟩) (Kd.R_types HO228.out BK229.out (by decide)) (fun _ hk => hk.2) (.int .i16 t225)) (fun _ hk => hk.2) (.slice Ao31 t226.length co31)) (fun _ h_ => h_.1)))); (case side2 => exact (Kd.R_reads' HO228.out).2.1); rintro e w32 ⟨v232, rfl, ho0, hb⟩; refine ⟨_, rfl, ?_⟩; have n0_ := Aside0.mk (Kd.R_elder' (by (with_reducible repeat (first | apply Kd.R_alloc | apply Kd.R_drewN | apply Kd.R_drew)); exact (Kd.R_mono (Kd.R_far (p := ⟨gb229, 1, none⟩) (Kd.R_far (p := ⟨gb229, 0, none⟩) (Kd.R_types HO217.out BK229.out (by decide)) (fun _ hk => hk.2) (.int .i16 t225)) (fun _ hk => hk.2) (.slice Ao31 t226.length co31)) (fun _ h_ => h_.1))) (Kd.R_base ho0) hb); have n1_ := Aside0.mk (Kd.R_elder' (by (with_reducible repeat (first | apply Kd.R_alloc | apply Kd.R_drewN | apply Kd.R_drew)); exact (Kd.R_mono (Kd.R_far (p := ⟨gb229, 1, none⟩) (Kd.R_far (p := ⟨gb229, 0, none⟩) (Kd.R_types HO221.out BK229.out (by decide)) (fun _ hk => hk.2) (.int .i16 t225)) (fun _ hk => hk.2) (.slice Ao31 t226.length co31)) (fun _ h_ => h_.1))) (Kd.R_base ho0) hb); have n2_ := Aside0.mk (Kd.R_elder' (by (with_reducible repeat (first | apply Kd.R_alloc | apply Kd.R_drewN | apply Kd.R_drew)); exact (Kd.R_mono (Kd.R_far (p := ⟨gb229, 1, none⟩) (Kd.R_far (p := ⟨gb229, 0, none⟩) (Kd.R_types HO228.out BK229.out (by decide)) (fun _ hk => hk.2) (.int .i16 t225)) (fun _ hk => hk.2) (.slice Ao31 t226.length co31)) (fun _ h_ => h_.1))) (Kd.R_base ho0) hb); have n3_ := Aside0.mk (Kd.R_lower (Kd.R_new' (Kd.R_new' (Kd.R_new' ho0 (Kd.R_lt (by (with_reducible repeat (first | apply Kd.R_alloc | apply Kd.R_drewN | apply Kd.R_drew)); exact (Kd.R_mono (Kd.R_far (p := ⟨gb229, 1, none⟩) (Kd.R_far (p := ⟨gb229, 0, none⟩) (Kd.R_types HO217.out BK229.out (by decide)) (fun _ hk => hk.2) (.int .i16 t225)) (fun _ hk => hk.2) (.slice Ao31 t226.length co31)) (fun _ h_ => h_.1))))) (Kd.R_lt (by (with_reducible repeat (first | apply Kd.R_alloc | apply Kd.R_drewN | apply Kd.R_drew)); exact (Kd.R_mono (Kd.R_far (p := ⟨gb229, 1, none⟩) (Kd.R_far (p := ⟨gb229, 0, none⟩) (Kd.R_types HO221.out BK229.out (by decide)) (fun _ hk => hk.2) (.int .i16 t225)) (fun _ hk => hk.2) (.slice Ao31 t226.length co31)) (fun _ h_ => h_.1))))) (Kd.R_lt (by (with_reducible repeat (first | apply Kd.R_alloc | apply Kd.R_drewN | apply Kd.R_drew)); exact (Kd.R_mono (Kd.R_far (p := ⟨gb229, 1, none⟩) (Kd.R_far (p := ⟨gb229, 0, none⟩) (Kd.R_types HO228.out BK229.out (by decide)) (fun _ hk => hk.2) (.int .i16 t225)) (fun _ hk => hk.2) (.slice Ao31 t226.length co31)) (fun _ h_ => h_.1))))) (below_size (by repeat (first | (with_reducible first | exact HB.out | apply below_alloc | apply pw_below_drewN | apply below_drew1 | refine below_set ?_ GE212.out | refine below_set ?_ GE224.out | refine below_set ?_ GE229.out) | exact HB.out)))); have n4_ := Aside0.mk (blk_below (g := gb212) (o := .cells #[.int .i16 a0_0, .slice A0_1 l0_1.length c0_1] 55 (0, 0)) (by (with_reducible repeat (first | refine blk_drewN ?_ _ | refine blk_drew ?_ | refine blk_alloc ?_ _)); refine blk_far ?_ NB212_229.out _; (with_reducible repeat (first | refine blk_drewN ?_ _ | refine blk_drew ?_ | refine blk_alloc ?_ _)); refine blk_far ?_ NB212_229.out _; (with_reducible repeat (first | refine blk_drewN ?_ _ | refine blk_drew ?_ | refine blk_alloc ?_ _)); exact BK212.out) hb); have n5_ := Aside0.mk (blk_below (g := gb224) (o := .cells #[.int .i16 t218, .slice Ao24 t219.length co24] 57 (0, 0)) (by (with_reducible repeat (first | refine blk_drewN ?_ _ | refine blk_drew ?_ | refine blk_alloc ?_ _)); refine blk_far ?_ NB224_229.out _; (with_reducible repeat (first | refine blk_drewN ?_ _ | refine blk_drew ?_ | refine blk_alloc ?_ _)); refine blk_far ?_ NB224_229.out _; (with_reducible repeat (first | refine blk_drewN ?_ _ | refine blk_drew ?_ | refine blk_alloc ?_ _)); exact BK224.out) hb); have n6_ := Aside0.mk (blk_below (g := gb229) (o := .cells #[.int .i16 t225, .slice Ao31 t226.length co31] 57 (0, 0)) (by (with_reducible repeat (first | refine blk_drewN ?_ _ | refine blk_drew ?_ | refine blk_alloc ?_ _)); refine blk_put (cs := #[.int .i16 t225, .slice none 0 0]) ?_ 1 _ rfl; (with_reducible repeat (first | refine blk_drewN ?_ _ | refine blk_drew ?_ | refine blk_alloc ?_ _)); refine blk_put (cs := #[.int .i16 0, .slice none 0 0]) ?_ 0 _ rfl; (with_reducible repeat (first | refine blk_drewN ?_ _ | refine blk_drew ?_ | refine blk_alloc ?_ _)); exact BK229.out) hb); have n7_ := Aside0.mk (below_step (by repeat (first | (with_reducible first | exact HB.out | apply below_alloc | apply pw_below_drewN | apply below_drew1 | refine below_set ?_ GE212.out | refine below_set ?_ GE224.out | refine below_set ?_ GE229.out) | exact HB.out)) hb); clear HO217; clear HO221; clear HO228; clear BK212; clear BK224; clear BK229; clear HB; have HO217 := n0_; have HO221 := n1_; have HO228 := n2_; have HO233 := n3_; have BK212 := n4_; have BK224 := n5_; have BK229 := n6_; have HB := n7_; clear n0_ n1_ n2_ n3_ n4_ n5_ n6_ n7_; (try clear hb); (try clear hb2); (try clear hk); (try clear hi); (try clear ho0)) | ((with_reducible refine gate_dst (N := 12) rfl ?_); refine box_event ?hg (N := 12) ?hd (cs := #[.int .i16 0, .slice none 0 0]) (t := 57) ?hr ?_; (case hd => rfl); (case hg => rfl); (case hr => first | (go_simp; done) | (go_simp; rfl)); intro gb236 hg w33 hbox hb; have n0_ := Aside0.mk (Kd.R_below (by (with_reducible repeat (first | apply Kd.R_alloc | apply Kd.R_drewN | apply Kd.R_drew)); exact HO217.out) hb); have n1_ := Aside0.mk (Kd.R_below (by (with_reducible repeat (first | apply Kd.R_alloc | apply Kd.R_drewN | apply Kd.R_drew)); exact HO221.out) hb); have n2_ := Aside0.mk (Kd.R_below (by (with_reducible repeat (first | apply Kd.R_alloc | apply Kd.R_drewN | apply Kd.R_drew)); exact HO228.out) hb); have n3_ := Aside0.mk (Kd.R_below (by (with_reducible repeat (first | apply Kd.R_alloc | apply Kd.R_drewN | apply Kd.R_drew)); exact HO233.out) hb); have n4_ := Aside0.mk (blk_below (g := gb212) (o := .cells #[.int .i16 a0_0, .slice A0_1 l0_1.length c0_1] 55 (0, 0)) (by (with_reducible repeat (first | refine blk_drewN ?_ _ | refine blk_drew ?_ | refine blk_alloc ?_ _)); exact BK212.out) hb); have n5_ := Aside0.mk (blk_below (g := gb224) (o := .cells #[.int .i16 t218, .slice Ao24 t219.length co24] 57 (0, 0)) (by (with_reducible repeat (first | refine blk_drewN ?_ _ | refine blk_drew ?_ | refine blk_alloc ?_ _)); exact BK224.out) hb); have n6_ := Aside0.mk (blk_below (g := gb229) (o := .cells #[.int .i16 t225, .slice Ao31 t226.length co31] 57 (0, 0)) (by (with_reducible repeat (first | refine blk_drewN ?_ _ | refine blk_drew ?_ | refine blk_alloc ?_ _)); exact BK229.out) hb); have n7_ := Aside0.mk (below_step (by repeat (first | (with_reducible first | exact HB.out | apply below_alloc | apply pw_below_drewN | apply below_drew1 | refine below_set ?_ GE212.out | refine below_set ?_ GE224.out | refine below_set ?_ GE229.out) | exact HB.out)) hb); have n8_ := Aside0.mk (hbox); have n9_ := Aside0.mk ((by rw [hg]; exact (below_size (by repeat (first | (with_reducible first | exact HB.out | apply below_alloc | apply pw_below_drewN | apply below_drew1 | refine below_set ?_ GE212.out | refine below_set ?_ GE224.out | refine below_set ?_ GE229.out) | exact HB.out))) : w.heap.size ≤ gb236)); have n10_ := Aside0.mk ((by rw [hg]; exact (below_size (by repeat (first | (with_reducible first | exact HB.out | apply below_alloc | apply pw_below_drewN | apply below_drew1 | refine below_set ?_ GE212.out | refine below_set ?_ GE224.out | refine below_set ?_ GE229.out) | exact HB.out))) : w.heap.size ≤ gb236)); have n11_ := Aside0.mk ((by rw [hg]; exact Nat.ne_of_lt (blk_lt (g := gb212) (o := .cells #[.int .i16 a0_0, .slice A0_1 l0_1.length c0_1] 55 (0, 0)) (by (with_reducible repeat (first | refine blk_drewN ?_ _ | refine blk_drew ?_ | refine blk_alloc ?_ _)); exact BK212.out)) : gb212 ≠ gb236)); have n12_ := Aside0.mk ((by rw [hg]; exact Nat.ne_of_gt (blk_lt (g := gb212) (o := .cells #[.int .i16 a0_0, .slice A0_1 l0_1.length c0_1] 55 (0, 0)) (by (with_reducible repeat (first | refine blk_drewN ?_ _ | refine blk_drew ?_ | refine blk_alloc ?_ _)); exact BK212.out)) : gb236 ≠ gb212)); have n13_ := Aside0.mk ((by rw [hg]; exact Nat.ne_of_lt (blk_lt (g := gb224) (o := .cells #[.int .i16 t218, .slice Ao24 t219.length co24] 57 (0, 0)) (by (with_reducible repeat (first | refine blk_drewN ?_ _ | refine blk_drew ?_ | refine blk_alloc ?_ _)); exact BK224.out)) : gb224 ≠ gb236)); have n14_ := Aside0.mk ((by rw [hg]; exact Nat.ne_of_gt (blk_lt (g := gb224) (o := .cells #[.int .i16 t218, .slice Ao24 t219.length co24] 57 (0, 0)) (by (with_reducible repeat (first | refine blk_drewN ?_ _ | refine blk_drew ?_ | refine blk_alloc ?_ _)); exact BK224.out)) : gb236 ≠ gb224)); have n15_ := Aside0.mk ((by rw [hg]; exact Nat.ne_of_lt (blk_lt (g := gb229) (o := .cells #[.int .i16 t225, .slice Ao31 t226.length co31] 57 (0, 0)) (by (with_reducible repeat (first | refine blk_drewN ?_ _ | refine blk_drew ?_ | refine blk_alloc ?_ _)); exact BK229.out)) : gb229 ≠ gb236)); have n16_ := Aside0.mk ((by rw [hg]; exact Nat.ne_of_gt (blk_lt (g := gb229) (o := .cells #[.int .i16 t225, .slice Ao31 t226.length co31] 57 (0, 0)) (by (with_reducible repeat (first | refine blk_drewN ?_ _ | refine blk_drew ?_ | refine blk_alloc ?_ _)); exact BK229.out)) : gb236 ≠ gb229)); clear HO217; clear HO221; clear HO228; clear HO233; clear BK212; clear BK224; clear BK229; clear HB; have HO217 := n0_; have HO221 := n1_; have HO228 := n2_; have HO233 := n3_; have BK212 := n4_; have BK224 := n5_; have BK229 := n6_; have HB := n7_; have BK236 := n8_; have GW236 := n9_; have GE236 := n10_; have NB212_236 := n11_; have NB236_212 := n12_; have NB224_236 := n13_; have NB236_224 := n14_; have NB229_236 := n15_; have NB236_229 := n16_; clear n0_ n1_ n2_ n3_ n4_ n5_ n6_ n7_ n8_ n9_ n10_ n11_ n12_ n13_ n14_ n15_ n16_; clear hb hbox hg; have hnb34 := NB236_212.out; have hnc34 := NB212_236.out; have hnb35 := NB236_224.out; have hnc35 := NB224_236.out; have hnb36 := NB236_229.out; have hnc36 := NB229_236.out; have hcz37_0 : w33.cell? ⟨gb236, 0, none⟩ = some (.int .i16 0) := (blk_cell BK236.out 0).trans rfl; have hcz37_1 : w33.cell? ⟨gb236, 1, none⟩ = some (.slice none 0 0) := (blk_cell BK236.out 1).trans rfl; have hfz37_0 := blk_frozen BK236.out 0; have hfz37_1 := blk_frozen BK236.out 1; obtain ⟨Ao38, co38, eo38⟩ := Kd.R_slice HO233.out; subst eo38))
    (try simp only [Act.put, List.setIfInBounds_toArray, List.set_cons_zero, List.set_cons_succ])
    go_cut [58] (fun v58 wc => ∃ (kq : Nat) (x58_12 : Bool), v58 = .bool x58_12 ∧ Aside0 (laws_FnExactFrogTo.j0 kq a1 a2 t222 t223 t234 t235 x58_12 a0_0 l0_1 t218 t219 t225 t226 t230 t231 = some r) ∧ Aside0 (kq ≤ k) ∧ Aside0 (Kd.R Kd.string 9 wc w.heap.size (fun k_ => some k_ ≠ ((.slice Ao31 t226.length co31) : Value).ownBlock ∧ some k_ ≠ ((.slice Ao38 t231.length co38) : Value).ownBlock) (.slice Ao24 t219.length co24) t219) ∧ Aside0 (Kd.R Kd.string 9 wc w.heap.size (fun k_ => some k_ ≠ ((.slice Ao24 t219.length co24) : Value).ownBlock ∧ some k_ ≠ ((.slice Ao38 t231.length co38) : Value).ownBlock) (.slice Ao31 t226.length co31) t226) ∧ Aside0 (Kd.R Kd.string 9 wc w.heap.size (fun k_ => some k_ ≠ ((.slice Ao24 t219.length co24) : Value).ownBlock ∧ some k_ ≠ ((.slice Ao31 t226.length co31) : Value).ownBlock) (.slice Ao38 t231.length co38) t231) ∧ Aside0 (wc.heap[gb212]? = some (.cells #[.int .i16 a0_0, (.slice A0_1 l0_1.length c0_1)] 55 (0, 0))) ∧ Aside0 (wc.heap[gb224]? = some (.cells #[.int .i16 t218, (.slice Ao24 t219.length co24)] 57 (0, 0))) ∧ Aside0 (wc.heap[gb229]? = some (.cells #[.int .i16 t225, (.slice Ao31 t226.length co31)] 57 (0, 0))) ∧ Aside0 (wc.heap[gb236]? = some (.cells #[.int .i16 t230, (.slice Ao38 t231.length co38)] 57 (0, 0))) ∧ Aside0 (Below w.heap.size w wc))
    case first =>
      as_aux_lemma =>
      have H := HC13.out
      clear HC13
      replace H := Option.bind_eq_some_iff.mp H
      obtain ⟨t237, A390, H⟩ := H
      replace H : (if t237 = true then (if t234 = t222 then (laws_FnExactFrogTo.j0 k a1 a2 t222 t223 t234 t235 (t235 != t223) a0_0 l0_1 t218 t219 t225 t226 t230 t231) else (laws_FnExactFrogTo.j0 k a1 a2 t222 t223 t234 t235 true a0_0 l0_1 t218 t219 t225 t226 t230 t231)) else (laws_FnExactFrogTo.j0 k a1 a2 t222 t223 t234 t235 true a0_0 l0_1 t218 t219 t225 t226 t230 t231)) = some r := H
      have A39 := Aside0.mk A390
      clear A390
      by_cases c40 : t237 = true
      · subst c40
        have H1 : (if t234 = t222 then (laws_FnExactFrogTo.j0 k a1 a2 t222 t223 t234 t235 (t235 != t223) a0_0 l0_1 t218 t219 t225 t226 t230 t231) else (laws_FnExactFrogTo.j0 k a1 a2 t222 t223 t234 t235 true a0_0 l0_1 t218 t219 t225 t226 t230 t231)) = some r := by rw [if_pos rfl] at H; exact H
        clear H
        have H := H1
        clear H1
        by_cases c41 : t234 = t222
        · rw [if_pos c41] at H
          have c41b0 : (t234 == t222) = true := beq_iff_eq.mpr c41
          have c41b1 : (t234 != t222) = false := bne_eq_false_iff_eq.mpr c41
          clear c41
          (first | rw [c41b0] | (simp only [i64_w, i32_w]; rw [c41b0]) | skip)
          have H' := Aside0.mk H
          clear H
          have hnb42 := NB236_212.out
          have hnc42 := NB212_236.out
          have hnb43 := NB236_224.out
          have hnc43 := NB224_236.out
          have hnb44 := NB236_229.out
          have hnc44 := NB229_236.out
          have hcz45_0 : w33.cell? ⟨gb236, 0, none⟩ = some (.int .i16 0) := (blk_cell BK236.out 0).trans rfl
          have hcz45_1 : w33.cell? ⟨gb236, 1, none⟩ = some (.slice none 0 0) := (blk_cell BK236.out 1).trans rfl
          have hfz45_0 := blk_frozen BK236.out 0
          have hfz45_1 := blk_frozen BK236.out 1
          have hnb46 := NB224_212.out
          have hnc46 := NB212_224.out
          have hnb47 := NB224_229.out
          have hnc47 := NB229_224.out
          have hcz48_0 : w33.cell? ⟨gb224, 0, none⟩ = some (.int .i16 t218) := (blk_cell BK224.out 0).trans rfl
          have hcz48_1 : w33.cell? ⟨gb224, 1, none⟩ = some (.slice Ao24 t219.length co24) := (blk_cell BK224.out 1).trans rfl
          have hfz48_0 := blk_frozen BK224.out 0
          have hfz48_1 := blk_frozen BK224.out 1
          go_wp2_with (first | ((with_reducible refine gate_callee (f := 36) rfl ?_); refine goesL_ (some 47) rfl rfl Try.func36 (by kernel_rfl) rfl #[.agg #[.int .i16 t230, .slice Ao38 t231.length co38], .agg #[.int .i16 t218, .slice Ao24 t219.length co24]] rfl (by (try simp only [List.map_toArray, List.map_cons, List.map_nil]); first | done | rfl | (simp only [List.length_drop, List.length_take]; rfl)) ?_; (with_reducible refine (laws_eqFabric.calls k t230 _ _ t231 t218 _ _ t219 true _ ?side1 ?side2 ?side3 ?side4 A39.out).mono ?_); (case side1 => refine (Kd.R_reads' (e := 9) (base := w.heap.size) (ok := fun k_ => (((True ∧ some k_ ≠ (.slice Ao19 t215.length co19 : Value).ownBlock) ∧ some k_ ≠ (.slice Ao24 t219.length co24 : Value).ownBlock) ∧ some k_ ≠ (.slice Ao31 t226.length co31 : Value).ownBlock)) (n := t231.length) (c := co38) ?_).2.2; exact (by (with_reducible repeat (first | apply Kd.R_alloc | apply Kd.R_drewN | apply Kd.R_drew)); exact (Kd.R_mono (Kd.R_far (p := ⟨gb236, 1, none⟩) (Kd.R_far (p := ⟨gb236, 0, none⟩) (Kd.R_types HO233.out BK236.out (by decide)) (fun _ hk => hk.2) (.int .i16 t230)) (fun _ hk => hk.2) (.slice Ao38 t231.length co38)) (fun _ h_ => h_.1)))); (case side2 => exact (Kd.R_reads' HO233.out).2.1); (case side3 => refine (Kd.R_reads' (e := 9) (base := w.heap.size) (ok := fun k_ => (((True ∧ some k_ ≠ (.slice Ao19 t215.length co19 : Value).ownBlock) ∧ some k_ ≠ (.slice Ao31 t226.length co31 : Value).ownBlock) ∧ some k_ ≠ (.slice Ao38 t231.length co38 : Value).ownBlock)) (n := t219.length) (c := co24) ?_).2.2; exact (by (with_reducible repeat (first | apply Kd.R_alloc | apply Kd.R_drewN | apply Kd.R_drew)); exact (Kd.R_mono (Kd.R_far (p := ⟨gb236, 1, none⟩) (Kd.R_far (p := ⟨gb236, 0, none⟩) (Kd.R_types HO221.out BK236.out (by decide)) (fun _ hk => hk.2) (.int .i16 t230)) (fun _ hk => hk.2) (.slice Ao38 t231.length co38)) (fun _ h_ => h_.1)))); (case side4 => exact (Kd.R_reads' HO221.out).2.1); rintro e w49 ⟨rfl, hb⟩; refine ⟨_, rfl, ?_⟩; have n0_ := Aside0.mk (Kd.R_below (by (with_reducible repeat (first | apply Kd.R_alloc | apply Kd.R_drewN | apply Kd.R_drew)); exact (Kd.R_mono (Kd.R_far (p := ⟨gb236, 1, none⟩) (Kd.R_far (p := ⟨gb236, 0, none⟩) (Kd.R_types HO217.out BK236.out (by decide)) (fun _ hk => hk.2) (.int .i16 t230)) (fun _ hk => hk.2) (.slice Ao38 t231.length co38)) (fun _ h_ => h_.1))) hb); have n1_ := Aside0.mk (Kd.R_below (by (with_reducible repeat (first | apply Kd.R_alloc | apply Kd.R_drewN | apply Kd.R_drew)); exact (Kd.R_mono (Kd.R_far (p := ⟨gb236, 1, none⟩) (Kd.R_far (p := ⟨gb236, 0, none⟩) (Kd.R_types HO221.out BK236.out (by decide)) (fun _ hk => hk.2) (.int .i16 t230)) (fun _ hk => hk.2) (.slice Ao38 t231.length co38)) (fun _ h_ => h_.1))) hb); have n2_ := Aside0.mk (Kd.R_below (by (with_reducible repeat (first | apply Kd.R_alloc | apply Kd.R_drewN | apply Kd.R_drew)); exact (Kd.R_mono (Kd.R_far (p := ⟨gb236, 1, none⟩) (Kd.R_far (p := ⟨gb236, 0, none⟩) (Kd.R_types HO228.out BK236.out (by decide)) (fun _ hk => hk.2) (.int .i16 t230)) (fun _ hk => hk.2) (.slice Ao38 t231.length co38)) (fun _ h_ => h_.1))) hb); have n3_ := Aside0.mk (Kd.R_below (by (with_reducible repeat (first | apply Kd.R_alloc | apply Kd.R_drewN | apply Kd.R_drew)); exact (Kd.R_mono (Kd.R_far (p := ⟨gb236, 1, none⟩) (Kd.R_far (p := ⟨gb236, 0, none⟩) (Kd.R_types HO233.out BK236.out (by decide)) (fun _ hk => hk.2) (.int .i16 t230)) (fun _ hk => hk.2) (.slice Ao38 t231.length co38)) (fun _ h_ => h_.1))) hb); have n4_ := Aside0.mk (blk_below (g := gb212) (o := .cells #[.int .i16 a0_0, .slice A0_1 l0_1.length c0_1] 55 (0, 0)) (by (with_reducible repeat (first | refine blk_drewN ?_ _ | refine blk_drew ?_ | refine blk_alloc ?_ _)); refine blk_far ?_ NB212_236.out _; (with_reducible repeat (first | refine blk_drewN ?_ _ | refine blk_drew ?_ | refine blk_alloc ?_ _)); refine blk_far ?_ NB212_236.out _; (with_reducible repeat (first | refine blk_drewN ?_ _ | refine blk_drew ?_ | refine blk_alloc ?_ _)); exact BK212.out) hb); have n5_ := Aside0.mk (blk_below (g := gb224) (o := .cells #[.int .i16 t218, .slice Ao24 t219.length co24] 57 (0, 0)) (by (with_reducible repeat (first | refine blk_drewN ?_ _ | refine blk_drew ?_ | refine blk_alloc ?_ _)); refine blk_far ?_ NB224_236.out _; (with_reducible repeat (first | refine blk_drewN ?_ _ | refine blk_drew ?_ | refine blk_alloc ?_ _)); refine blk_far ?_ NB224_236.out _; (with_reducible repeat (first | refine blk_drewN ?_ _ | refine blk_drew ?_ | refine blk_alloc ?_ _)); exact BK224.out) hb); have n6_ := Aside0.mk (blk_below (g := gb229) (o := .cells #[.int .i16 t225, .slice Ao31 t226.length co31] 57 (0, 0)) (by (with_reducible repeat (first | refine blk_drewN ?_ _ | refine blk_drew ?_ | refine blk_alloc ?_ _)); refine blk_far ?_ NB229_236.out _; (with_reducible repeat (first | refine blk_drewN ?_ _ | refine blk_drew ?_ | refine blk_alloc ?_ _)); refine blk_far ?_ NB229_236.out _; (with_reducible repeat (first | refine blk_drewN ?_ _ | refine blk_drew ?_ | refine blk_alloc ?_ _)); exact BK229.out) hb); have n7_ := Aside0.mk (blk_below (g := gb236) (o := .cells #[.int .i16 t230, .slice Ao38 t231.length co38] 57 (0, 0)) (by (with_reducible repeat (first | refine blk_drewN ?_ _ | refine blk_drew ?_ | refine blk_alloc ?_ _)); refine blk_put (cs := #[.int .i16 t230, .slice none 0 0]) ?_ 1 _ rfl; (with_reducible repeat (first | refine blk_drewN ?_ _ | refine blk_drew ?_ | refine blk_alloc ?_ _)); refine blk_put (cs := #[.int .i16 0, .slice none 0 0]) ?_ 0 _ rfl; (with_reducible repeat (first | refine blk_drewN ?_ _ | refine blk_drew ?_ | refine blk_alloc ?_ _)); exact BK236.out) hb); have n8_ := Aside0.mk (below_step (by repeat (first | (with_reducible first | exact HB.out | apply below_alloc | apply pw_below_drewN | apply below_drew1 | refine below_set ?_ GE212.out | refine below_set ?_ GE224.out | refine below_set ?_ GE229.out | refine below_set ?_ GE236.out) | exact HB.out)) hb); clear HO217; clear HO221; clear HO228; clear HO233; clear BK212; clear BK224; clear BK229; clear BK236; clear HB; have HO217 := n0_; have HO221 := n1_; have HO228 := n2_; have HO233 := n3_; have BK212 := n4_; have BK224 := n5_; have BK229 := n6_; have BK236 := n7_; have HB := n8_; clear n0_ n1_ n2_ n3_ n4_ n5_ n6_ n7_ n8_; (try clear hb); (try clear hb2); (try clear hk); (try clear hi)))
          go_meet
          case rel => exact ⟨_, ((t235 != t223)), (by first | rfl | (simp; done) | (simp [*]; done)), H', ⟨by first | omega | exact Nat.le_refl _⟩, ⟨by (with_reducible repeat (first | apply Kd.R_alloc | apply Kd.R_drewN | apply Kd.R_drew)); exact Kd.R_mono HO221.out (fun _ hk => ⟨hk.1.2, hk.2⟩)⟩, ⟨by (with_reducible repeat (first | apply Kd.R_alloc | apply Kd.R_drewN | apply Kd.R_drew)); exact Kd.R_mono HO228.out (fun _ hk => ⟨hk.1.2, hk.2⟩)⟩, ⟨by (with_reducible repeat (first | apply Kd.R_alloc | apply Kd.R_drewN | apply Kd.R_drew)); exact Kd.R_mono HO233.out (fun _ hk => ⟨hk.1.2, hk.2⟩)⟩, ⟨by (with_reducible repeat (first | refine blk_drewN ?_ _ | refine blk_drew ?_ | refine blk_alloc ?_ _)); exact BK212.out⟩, ⟨by (with_reducible repeat (first | refine blk_drewN ?_ _ | refine blk_drew ?_ | refine blk_alloc ?_ _)); exact BK224.out⟩, ⟨by (with_reducible repeat (first | refine blk_drewN ?_ _ | refine blk_drew ?_ | refine blk_alloc ?_ _)); exact BK229.out⟩, ⟨by (with_reducible repeat (first | refine blk_drewN ?_ _ | refine blk_drew ?_ | refine blk_alloc ?_ _)); exact BK236.out⟩, ⟨by repeat (first | (with_reducible first | exact HB.out | apply below_alloc | apply pw_below_drewN | apply below_drew1 | refine below_set ?_ GE212.out | refine below_set ?_ GE224.out | refine below_set ?_ GE229.out | refine below_set ?_ GE236.out) | exact HB.out)⟩⟩
        · rw [if_neg c41] at H
          have c41b0 : (t234 == t222) = false := beq_eq_false_iff_ne.mpr c41
          have c41b1 : (t234 != t222) = true := bne_iff_ne.mpr c41
          (first | rw [c41b0] | (simp only [i64_w, i32_w]; rw [c41b0]) | skip)
          have H' := Aside0.mk H
          clear H
          have hnb50 := NB236_212.out
          have hnc50 := NB212_236.out
          have hnb51 := NB236_224.out
          have hnc51 := NB224_236.out
          have hnb52 := NB236_229.out
          have hnc52 := NB229_236.out
          have hcz53_0 : w33.cell? ⟨gb236, 0, none⟩ = some (.int .i16 0) := (blk_cell BK236.out 0).trans rfl
          have hcz53_1 : w33.cell? ⟨gb236, 1, none⟩ = some (.slice none 0 0) := (blk_cell BK236.out 1).trans rfl
          have hfz53_0 := blk_frozen BK236.out 0
          have hfz53_1 := blk_frozen BK236.out 1
          have hnb54 := NB224_212.out
          have hnc54 := NB212_224.out
          have hnb55 := NB224_229.out
          have hnc55 := NB229_224.out
          have hcz56_0 : w33.cell? ⟨gb224, 0, none⟩ = some (.int .i16 t218) := (blk_cell BK224.out 0).trans rfl
          have hcz56_1 : w33.cell? ⟨gb224, 1, none⟩ = some (.slice Ao24 t219.length co24) := (blk_cell BK224.out 1).trans rfl
          have hfz56_0 := blk_frozen BK224.out 0
          have hfz56_1 := blk_frozen BK224.out 1
          go_wp2_with (first | ((with_reducible refine gate_callee (f := 36) rfl ?_); refine goesL_ (some 47) rfl rfl Try.func36 (by kernel_rfl) rfl #[.agg #[.int .i16 t230, .slice Ao38 t231.length co38], .agg #[.int .i16 t218, .slice Ao24 t219.length co24]] rfl (by (try simp only [List.map_toArray, List.map_cons, List.map_nil]); first | done | rfl | (simp only [List.length_drop, List.length_take]; rfl)) ?_; (with_reducible refine (laws_eqFabric.calls k t230 _ _ t231 t218 _ _ t219 true _ ?side1 ?side2 ?side3 ?side4 A39.out).mono ?_); (case side1 => refine (Kd.R_reads' (e := 9) (base := w.heap.size) (ok := fun k_ => (((True ∧ some k_ ≠ (.slice Ao19 t215.length co19 : Value).ownBlock) ∧ some k_ ≠ (.slice Ao24 t219.length co24 : Value).ownBlock) ∧ some k_ ≠ (.slice Ao31 t226.length co31 : Value).ownBlock)) (n := t231.length) (c := co38) ?_).2.2; exact (by (with_reducible repeat (first | apply Kd.R_alloc | apply Kd.R_drewN | apply Kd.R_drew)); exact (Kd.R_mono (Kd.R_far (p := ⟨gb236, 1, none⟩) (Kd.R_far (p := ⟨gb236, 0, none⟩) (Kd.R_types HO233.out BK236.out (by decide)) (fun _ hk => hk.2) (.int .i16 t230)) (fun _ hk => hk.2) (.slice Ao38 t231.length co38)) (fun _ h_ => h_.1)))); (case side2 => exact (Kd.R_reads' HO233.out).2.1); (case side3 => refine (Kd.R_reads' (e := 9) (base := w.heap.size) (ok := fun k_ => (((True ∧ some k_ ≠ (.slice Ao19 t215.length co19 : Value).ownBlock) ∧ some k_ ≠ (.slice Ao31 t226.length co31 : Value).ownBlock) ∧ some k_ ≠ (.slice Ao38 t231.length co38 : Value).ownBlock)) (n := t219.length) (c := co24) ?_).2.2; exact (by (with_reducible repeat (first | apply Kd.R_alloc | apply Kd.R_drewN | apply Kd.R_drew)); exact (Kd.R_mono (Kd.R_far (p := ⟨gb236, 1, none⟩) (Kd.R_far (p := ⟨gb236, 0, none⟩) (Kd.R_types HO221.out BK236.out (by decide)) (fun _ hk => hk.2) (.int .i16 t230)) (fun _ hk => hk.2) (.slice Ao38 t231.length co38)) (fun _ h_ => h_.1)))); (case side4 => exact (Kd.R_reads' HO221.out).2.1); rintro e w57 ⟨rfl, hb⟩; refine ⟨_, rfl, ?_⟩; have n0_ := Aside0.mk (Kd.R_below (by (with_reducible repeat (first | apply Kd.R_alloc | apply Kd.R_drewN | apply Kd.R_drew)); exact (Kd.R_mono (Kd.R_far (p := ⟨gb236, 1, none⟩) (Kd.R_far (p := ⟨gb236, 0, none⟩) (Kd.R_types HO217.out BK236.out (by decide)) (fun _ hk => hk.2) (.int .i16 t230)) (fun _ hk => hk.2) (.slice Ao38 t231.length co38)) (fun _ h_ => h_.1))) hb); have n1_ := Aside0.mk (Kd.R_below (by (with_reducible repeat (first | apply Kd.R_alloc | apply Kd.R_drewN | apply Kd.R_drew)); exact (Kd.R_mono (Kd.R_far (p := ⟨gb236, 1, none⟩) (Kd.R_far (p := ⟨gb236, 0, none⟩) (Kd.R_types HO221.out BK236.out (by decide)) (fun _ hk => hk.2) (.int .i16 t230)) (fun _ hk => hk.2) (.slice Ao38 t231.length co38)) (fun _ h_ => h_.1))) hb); have n2_ := Aside0.mk (Kd.R_below (by (with_reducible repeat (first | apply Kd.R_alloc | apply Kd.R_drewN | apply Kd.R_drew)); exact (Kd.R_mono (Kd.R_far (p := ⟨gb236, 1, none⟩) (Kd.R_far (p := ⟨gb236, 0, none⟩) (Kd.R_types HO228.out BK236.out (by decide)) (fun _ hk => hk.2) (.int .i16 t230)) (fun _ hk => hk.2) (.slice Ao38 t231.length co38)) (fun _ h_ => h_.1))) hb); have n3_ := Aside0.mk (Kd.R_below (by (with_reducible repeat (first | apply Kd.R_alloc | apply Kd.R_drewN | apply Kd.R_drew)); exact (Kd.R_mono (Kd.R_far (p := ⟨gb236, 1, none⟩) (Kd.R_far (p := ⟨gb236, 0, none⟩) (Kd.R_types HO233.out BK236.out (by decide)) (fun _ hk => hk.2) (.int .i16 t230)) (fun _ hk => hk.2) (.slice Ao38 t231.length co38)) (fun _ h_ => h_.1))) hb); have n4_ := Aside0.mk (blk_below (g := gb212) (o := .cells #[.int .i16 a0_0, .slice A0_1 l0_1.length c0_1] 55 (0, 0)) (by (with_reducible repeat (first | refine blk_drewN ?_ _ | refine blk_drew ?_ | refine blk_alloc ?_ _)); refine blk_far ?_ NB212_236.out _; (with_reducible repeat (first | refine blk_drewN ?_ _ | refine blk_drew ?_ | refine blk_alloc ?_ _)); refine blk_far ?_ NB212_236.out _; (with_reducible repeat (first | refine blk_drewN ?_ _ | refine blk_drew ?_ | refine blk_alloc ?_ _)); exact BK212.out) hb); have n5_ := Aside0.mk (blk_below (g := gb224) (o := .cells #[.int .i16 t218, .slice Ao24 t219.length co24] 57 (0, 0)) (by (with_reducible repeat (first | refine blk_drewN ?_ _ | refine blk_drew ?_ | refine blk_alloc ?_ _)); refine blk_far ?_ NB224_236.out _; (with_reducible repeat (first | refine blk_drewN ?_ _ | refine blk_drew ?_ | refine blk_alloc ?_ _)); refine blk_far ?_ NB224_236.out _; (with_reducible repeat (first | refine blk_drewN ?_ _ | refine blk_drew ?_ | refine blk_alloc ?_ _)); exact BK224.out) hb); have n6_ := Aside0.mk (blk_below (g := gb229) (o := .cells #[.int .i16 t225, .slice Ao31 t226.length co31] 57 (0, 0)) (by (with_reducible repeat (first | refine blk_drewN ?_ _ | refine blk_drew ?_ | refine blk_alloc ?_ _)); refine blk_far ?_ NB229_236.out _; (with_reducible repeat (first | refine blk_drewN ?_ _ | refine blk_drew ?_ | refine blk_alloc ?_ _)); refine blk_far ?_ NB229_236.out _; (with_reducible repeat (first | refine blk_drewN ?_ _ | refine blk_drew ?_ | refine blk_alloc ?_ _)); exact BK229.out) hb); have n7_ := Aside0.mk (blk_below (g := gb236) (o := .cells #[.int .i16 t230, .slice Ao38 t231.length co38] 57 (0, 0)) (by (with_reducible repeat (first | refine blk_drewN ?_ _ | refine blk_drew ?_ | refine blk_alloc ?_ _)); refine blk_put (cs := #[.int .i16 t230, .slice none 0 0]) ?_ 1 _ rfl; (with_reducible repeat (first | refine blk_drewN ?_ _ | refine blk_drew ?_ | refine blk_alloc ?_ _)); refine blk_put (cs := #[.int .i16 0, .slice none 0 0]) ?_ 0 _ rfl; (with_reducible repeat (first | refine blk_drewN ?_ _ | refine blk_drew ?_ | refine blk_alloc ?_ _)); exact BK236.out) hb); have n8_ := Aside0.mk (below_step (by repeat (first | (with_reducible first | exact HB.out | apply below_alloc | apply pw_below_drewN | apply below_drew1 | refine below_set ?_ GE212.out | refine below_set ?_ GE224.out | refine below_set ?_ GE229.out | refine below_set ?_ GE236.out) | exact HB.out)) hb); clear HO217; clear HO221; clear HO228; clear HO233; clear BK212; clear BK224; clear BK229; clear BK236; clear HB; have HO217 := n0_; have HO221 := n1_; have HO228 := n2_; have HO233 := n3_; have BK212 := n4_; have BK224 := n5_; have BK229 := n6_; have BK236 := n7_; have HB := n8_; clear n0_ n1_ n2_ n3_ n4_ n5_ n6_ n7_ n8_; (try clear hb); (try clear hb2); (try clear hk); (try clear hi)))
          go_meet
          case rel => exact ⟨_, (true), (by first | rfl | (simp; done) | (simp [*]; done)), H', ⟨by first | omega | exact Nat.le_refl _⟩, ⟨by (with_reducible repeat (first | apply Kd.R_alloc | apply Kd.R_drewN | apply Kd.R_drew)); exact Kd.R_mono HO221.out (fun _ hk => ⟨hk.1.2, hk.2⟩)⟩, ⟨by (with_reducible repeat (first | apply Kd.R_alloc | apply Kd.R_drewN | apply Kd.R_drew)); exact Kd.R_mono HO228.out (fun _ hk => ⟨hk.1.2, hk.2⟩)⟩, ⟨by (with_reducible repeat (first | apply Kd.R_alloc | apply Kd.R_drewN | apply Kd.R_drew)); exact Kd.R_mono HO233.out (fun _ hk => ⟨hk.1.2, hk.2⟩)⟩, ⟨by (with_reducible repeat (first | refine blk_drewN ?_ _ | refine blk_drew ?_ | refine blk_alloc ?_ _)); exact BK212.out⟩, ⟨by (with_reducible repeat (first | refine blk_drewN ?_ _ | refine blk_drew ?_ | refine blk_alloc ?_ _)); exact BK224.out⟩, ⟨by (with_reducible repeat (first | refine blk_drewN ?_ _ | refine blk_drew ?_ | refine blk_alloc ?_ _)); exact BK229.out⟩, ⟨by (with_reducible repeat (first | refine blk_drewN ?_ _ | refine blk_drew ?_ | refine blk_alloc ?_ _)); exact BK236.out⟩, ⟨by repeat (first | (with_reducible first | exact HB.out | apply below_alloc | apply pw_below_drewN | apply below_drew1 | refine below_set ?_ GE212.out | refine below_set ?_ GE224.out | refine below_set ?_ GE229.out | refine below_set ?_ GE236.out) | exact HB.out)⟩⟩
      · replace c40 := Bool.eq_false_iff.mpr c40
        subst c40
        have H1 : (laws_FnExactFrogTo.j0 k a1 a2 t222 t223 t234 t235 true a0_0 l0_1 t218 t219 t225 t226 t230 t231) = some r := by rw [if_neg (show ¬ (false = true) by decide)] at H; exact H
        clear H
        have H := H1
        clear H1
        have H' := Aside0.mk H
        clear H
        have hnb58 := NB236_212.out
        have hnc58 := NB212_236.out
        have hnb59 := NB236_224.out
        have hnc59 := NB224_236.out
        have hnb60 := NB236_229.out
        have hnc60 := NB229_236.out
        have hcz61_0 : w33.cell? ⟨gb236, 0, none⟩ = some (.int .i16 0) := (blk_cell BK236.out 0).trans rfl
        have hcz61_1 : w33.cell? ⟨gb236, 1, none⟩ = some (.slice none 0 0) := (blk_cell BK236.out 1).trans rfl
        have hfz61_0 := blk_frozen BK236.out 0
        have hfz61_1 := blk_frozen BK236.out 1
        have hnb62 := NB224_212.out
        have hnc62 := NB212_224.out
        have hnb63 := NB224_229.out
        have hnc63 := NB229_224.out
        have hcz64_0 : w33.cell? ⟨gb224, 0, none⟩ = some (.int .i16 t218) := (blk_cell BK224.out 0).trans rfl
        have hcz64_1 : w33.cell? ⟨gb224, 1, none⟩ = some (.slice Ao24 t219.length co24) := (blk_cell BK224.out 1).trans rfl
        have hfz64_0 := blk_frozen BK224.out 0
        have hfz64_1 := blk_frozen BK224.out 1
        go_wp2_with (first | ((with_reducible refine gate_callee (f := 36) rfl ?_); refine goesL_ (some 47) rfl rfl Try.func36 (by kernel_rfl) rfl #[.agg #[.int .i16 t230, .slice Ao38 t231.length co38], .agg #[.int .i16 t218, .slice Ao24 t219.length co24]] rfl (by (try simp only [List.map_toArray, List.map_cons, List.map_nil]); first | done | rfl | (simp only [List.length_drop, List.length_take]; rfl)) ?_; (with_reducible refine (laws_eqFabric.calls k t230 _ _ t231 t218 _ _ t219 false _ ?side1 ?side2 ?side3 ?side4 A39.out).mono ?_); (case side1 => refine (Kd.R_reads' (e := 9) (base := w.heap.size) (ok := fun k_ => (((True ∧ some k_ ≠ (.slice Ao19 t215.length co19 : Value).ownBlock) ∧ some k_ ≠ (.slice Ao24 t219.length co24 : Value).ownBlock) ∧ some k_ ≠ (.slice Ao31 t226.length co31 : Value).ownBlock)) (n := t231.length) (c := co38) ?_).2.2; exact (by (with_reducible repeat (first | apply Kd.R_alloc | apply Kd.R_drewN | apply Kd.R_drew)); exact (Kd.R_mono (Kd.R_far (p := ⟨gb236, 1, none⟩) (Kd.R_far (p := ⟨gb236, 0, none⟩) (Kd.R_types HO233.out BK236.out (by decide)) (fun _ hk => hk.2) (.int .i16 t230)) (fun _ hk => hk.2) (.slice Ao38 t231.length co38)) (fun _ h_ => h_.1)))); (case side2 => exact (Kd.R_reads' HO233.out).2.1); (case side3 => refine (Kd.R_reads' (e := 9) (base := w.heap.size) (ok := fun k_ => (((True ∧ some k_ ≠ (.slice Ao19 t215.length co19 : Value).ownBlock) ∧ some k_ ≠ (.slice Ao31 t226.length co31 : Value).ownBlock) ∧ some k_ ≠ (.slice Ao38 t231.length co38 : Value).ownBlock)) (n := t219.length) (c := co24) ?_).2.2; exact (by (with_reducible repeat (first | apply Kd.R_alloc | apply Kd.R_drewN | apply Kd.R_drew)); exact (Kd.R_mono (Kd.R_far (p := ⟨gb236, 1, none⟩) (Kd.R_far (p := ⟨gb236, 0, none⟩) (Kd.R_types HO221.out BK236.out (by decide)) (fun _ hk => hk.2) (.int .i16 t230)) (fun _ hk => hk.2) (.slice Ao38 t231.length co38)) (fun _ h_ => h_.1)))); (case side4 => exact (Kd.R_reads' HO221.out).2.1); rintro e w65 ⟨rfl, hb⟩; refine ⟨_, rfl, ?_⟩; have n0_ := Aside0.mk (Kd.R_below (by (with_reducible repeat (first | apply Kd.R_alloc | apply Kd.R_drewN | apply Kd.R_drew)); exact (Kd.R_mono (Kd.R_far (p := ⟨gb236, 1, none⟩) (Kd.R_far (p := ⟨gb236, 0, none⟩) (Kd.R_types HO217.out BK236.out (by decide)) (fun _ hk => hk.2) (.int .i16 t230)) (fun _ hk => hk.2) (.slice Ao38 t231.length co38)) (fun _ h_ => h_.1))) hb); have n1_ := Aside0.mk (Kd.R_below (by (with_reducible repeat (first | apply Kd.R_alloc | apply Kd.R_drewN | apply Kd.R_drew)); exact (Kd.R_mono (Kd.R_far (p := ⟨gb236, 1, none⟩) (Kd.R_far (p := ⟨gb236, 0, none⟩) (Kd.R_types HO221.out BK236.out (by decide)) (fun _ hk => hk.2) (.int .i16 t230)) (fun _ hk => hk.2) (.slice Ao38 t231.length co38)) (fun _ h_ => h_.1))) hb); have n2_ := Aside0.mk (Kd.R_below (by (with_reducible repeat (first | apply Kd.R_alloc | apply Kd.R_drewN | apply Kd.R_drew)); exact (Kd.R_mono (Kd.R_far (p := ⟨gb236, 1, none⟩) (Kd.R_far (p := ⟨gb236, 0, none⟩) (Kd.R_types HO228.out BK236.out (by decide)) (fun _ hk => hk.2) (.int .i16 t230)) (fun _ hk => hk.2) (.slice Ao38 t231.length co38)) (fun _ h_ => h_.1))) hb); have n3_ := Aside0.mk (Kd.R_below (by (with_reducible repeat (first | apply Kd.R_alloc | apply Kd.R_drewN | apply Kd.R_drew)); exact (Kd.R_mono (Kd.R_far (p := ⟨gb236, 1, none⟩) (Kd.R_far (p := ⟨gb236, 0, none⟩) (Kd.R_types HO233.out BK236.out (by decide)) (fun _ hk => hk.2) (.int .i16 t230)) (fun _ hk => hk.2) (.slice Ao38 t231.length co38)) (fun _ h_ => h_.1))) hb); have n4_ := Aside0.mk (blk_below (g := gb212) (o := .cells #[.int .i16 a0_0, .slice A0_1 l0_1.length c0_1] 55 (0, 0)) (by (with_reducible repeat (first | refine blk_drewN ?_ _ | refine blk_drew ?_ | refine blk_alloc ?_ _)); refine blk_far ?_ NB212_236.out _; (with_reducible repeat (first | refine blk_drewN ?_ _ | refine blk_drew ?_ | refine blk_alloc ?_ _)); refine blk_far ?_ NB212_236.out _; (with_reducible repeat (first | refine blk_drewN ?_ _ | refine blk_drew ?_ | refine blk_alloc ?_ _)); exact BK212.out) hb); have n5_ := Aside0.mk (blk_below (g := gb224) (o := .cells #[.int .i16 t218, .slice Ao24 t219.length co24] 57 (0, 0)) (by (with_reducible repeat (first | refine blk_drewN ?_ _ | refine blk_drew ?_ | refine blk_alloc ?_ _)); refine blk_far ?_ NB224_236.out _; (with_reducible repeat (first | refine blk_drewN ?_ _ | refine blk_drew ?_ | refine blk_alloc ?_ _)); refine blk_far ?_ NB224_236.out _; (with_reducible repeat (first | refine blk_drewN ?_ _ | refine blk_drew ?_ | refine blk_alloc ?_ _)); exact BK224.out) hb); have n6_ := Aside0.mk (blk_below (g := gb229) (o := .cells #[.int .i16 t225, .slice Ao31 t226.length co31] 57 (0, 0)) (by (with_reducible repeat (first | refine blk_drewN ?_ _ | refine blk_drew ?_ | refine blk_alloc ?_ _)); refine blk_far ?_ NB229_236.out _; (with_reducible repeat (first | refine blk_drewN ?_ _ | refine blk_drew ?_ | refine blk_alloc ?_ _)); refine blk_far ?_ NB229_236.out _; (with_reducible repeat (first | refine blk_drewN ?_ _ | refine blk_drew ?_ | refine blk_alloc ?_ _)); exact BK229.out) hb); have n7_ := Aside0.mk (blk_below (g := gb236) (o := .cells #[.int .i16 t230, .slice Ao38 t231.length co38] 57 (0, 0)) (by (with_reducible repeat (first | refine blk_drewN ?_ _ | refine blk_drew ?_ | refine blk_alloc ?_ _)); refine blk_put (cs := #[.int .i16 t230, .slice none 0 0]) ?_ 1 _ rfl; (with_reducible repeat (first | refine blk_drewN ?_ _ | refine blk_drew ?_ | refine blk_alloc ?_ _)); refine blk_put (cs := #[.int .i16 0, .slice none 0 0]) ?_ 0 _ rfl; (with_reducible repeat (first | refine blk_drewN ?_ _ | refine blk_drew ?_ | refine blk_alloc ?_ _)); exact BK236.out) hb); have n8_ := Aside0.mk (below_step (by repeat (first | (with_reducible first | exact HB.out | apply below_alloc | apply pw_below_drewN | apply below_drew1 | refine below_set ?_ GE212.out | refine below_set ?_ GE224.out | refine below_set ?_ GE229.out | refine below_set ?_ GE236.out) | exact HB.out)) hb); clear HO217; clear HO221; clear HO228; clear HO233; clear BK212; clear BK224; clear BK229; clear BK236; clear HB; have HO217 := n0_; have HO221 := n1_; have HO228 := n2_; have HO233 := n3_; have BK212 := n4_; have BK224 := n5_; have BK229 := n6_; have BK236 := n7_; have HB := n8_; clear n0_ n1_ n2_ n3_ n4_ n5_ n6_ n7_ n8_; (try clear hb); (try clear hb2); (try clear hk); (try clear hi)))
        go_meet
        case rel => exact ⟨_, (true), (by first | rfl | (simp; done) | (simp [*]; done)), H', ⟨by first | omega | exact Nat.le_refl _⟩, ⟨by (with_reducible repeat (first | apply Kd.R_alloc | apply Kd.R_drewN | apply Kd.R_drew)); exact Kd.R_mono HO221.out (fun _ hk => ⟨hk.1.2, hk.2⟩)⟩, ⟨by (with_reducible repeat (first | apply Kd.R_alloc | apply Kd.R_drewN | apply Kd.R_drew)); exact Kd.R_mono HO228.out (fun _ hk => ⟨hk.1.2, hk.2⟩)⟩, ⟨by (with_reducible repeat (first | apply Kd.R_alloc | apply Kd.R_drewN | apply Kd.R_drew)); exact Kd.R_mono HO233.out (fun _ hk => ⟨hk.1.2, hk.2⟩)⟩, ⟨by (with_reducible repeat (first | refine blk_drewN ?_ _ | refine blk_drew ?_ | refine blk_alloc ?_ _)); exact BK212.out⟩, ⟨by (with_reducible repeat (first | refine blk_drewN ?_ _ | refine blk_drew ?_ | refine blk_alloc ?_ _)); exact BK224.out⟩, ⟨by (with_reducible repeat (first | refine blk_drewN ?_ _ | refine blk_drew ?_ | refine blk_alloc ?_ _)); exact BK229.out⟩, ⟨by (with_reducible repeat (first | refine blk_drewN ?_ _ | refine blk_drew ?_ | refine blk_alloc ?_ _)); exact BK236.out⟩, ⟨by repeat (first | (with_reducible first | exact HB.out | apply below_alloc | apply pw_below_drewN | apply below_drew1 | refine below_set ?_ GE212.out | refine below_set ?_ GE224.out | refine below_set ?_ GE229.out | refine below_set ?_ GE236.out) | exact HB.out)⟩⟩
    case rest =>
      as_aux_lemma =>
      clear HC13
      try clear c1
      try clear c2
      try clear p2
      try clear c3
      try clear c4
      try clear c5
      try clear c5b0
      try clear c6
      try clear c11
      try clear c22
      try clear c28
      try clear c29
      try clear c32
      try clear c34
      try clear c35
      try clear c36
      try clear c40
      try clear c41
      try clear c41b0
      try clear c41b1
      try clear c42
      try clear c43
      try clear c44
      try clear c46
      try clear c47
      try clear c50
      try clear c51
      try clear c52
      try clear c54
      try clear c55
      try clear c58
      try clear c59
      try clear c60
      try clear c62
      try clear c63
      try clear hcz15_0
      try clear hcz15_1
      try clear hcz17_0
      try clear hcz17_1
      try clear hcz23_0
      try clear hcz23_1
      try clear hcz25_0
      try clear hcz25_1
      try clear hcz30_0
      try clear hcz30_1
      try clear hcz37_0
      try clear hcz37_1
      try clear hcz45_0
      try clear hcz45_1
      try clear hcz48_0
      try clear hcz48_1
      try clear hcz53_0
      try clear hcz53_1
      try clear hcz56_0
      try clear hcz56_1
      try clear hcz61_0
      try clear hcz61_1
      try clear hcz64_0
      try clear hcz64_1
      try clear hcz7_0
      try clear hcz7_1
      try clear hfz15_0
      try clear hfz15_1
      try clear hfz17_0
      try clear hfz17_1
      try clear hfz23_0
      try clear hfz23_1
      try clear hfz25_0
      try clear hfz25_1
      try clear hfz30_0
      try clear hfz30_1
      try clear hfz37_0
      try clear hfz37_1
      try clear hfz45_0
      try clear hfz45_1
      try clear hfz48_0
      try clear hfz48_1
      try clear hfz53_0
      try clear hfz53_1
      try clear hfz56_0
      try clear hfz56_1
      try clear hfz61_0
      try clear hfz61_1
      try clear hfz64_0
      try clear hfz64_1
      try clear hfz7_0
      try clear hfz7_1
      obtain ⟨kq, x58_12, rfl, HA, HJ12, HO_225001, HO_230001, HO_237001, BK212, BK224, BK229, BK236, HB⟩ := hcut
      cases kq with
      | zero => exact absurd HA.out (by simp [laws_FnExactFrogTo.j0])
      | succ kj12 =>
        have H := HA.out
        clear HA
        simp only [laws_FnExactFrogTo.j0] at H
        by_cases c66 : x58_12 = true
        · subst c66
          have H1 : (none) = some r := by rw [if_pos rfl] at H; exact H
          clear H
          have H := H1
          clear H1
          exact absurd H (by simp)
        · replace c66 := Bool.eq_false_iff.mpr c66
          subst c66
          have H1 : ((laws_toFabric.f kj12 a0_0 l0_1).bind fun bt238 => ((laws_eqFabric.f kj12 t225 t226 bt238.1 bt238.2).bind fun t242 => (if t242 = true then ((laws_markFabric.f kj12 t225 t226 1).bind fun bt243 => (if bt243.1 < 0 then (laws_FnExactFrogTo.j1 kj12 a1 a2 t222 t223 true a0_0 l0_1 t218 t219 t230 t231) else ((laws_eqFabric.f kj12 t230 t231 t218 t219).bind fun t245 => (if t245 = true then (if t234 = t222 then (laws_FnExactFrogTo.j1 kj12 a1 a2 t222 t223 (t235 != t223) a0_0 l0_1 t218 t219 t230 t231) else (laws_FnExactFrogTo.j1 kj12 a1 a2 t222 t223 true a0_0 l0_1 t218 t219 t230 t231)) else (laws_FnExactFrogTo.j1 kj12 a1 a2 t222 t223 true a0_0 l0_1 t218 t219 t230 t231))))) else (none)))) = some r := by rw [if_neg (show ¬ (false = true) by decide)] at H; exact H
          clear H
          have H := H1
          clear H1
          replace H := Option.bind_eq_some_iff.mp H
          obtain ⟨⟨t238, t239⟩, A670, H⟩ := H
          replace H : ((laws_eqFabric.f kj12 t225 t226 t238 t239).bind fun t242 => (if t242 = true then ((laws_markFabric.f kj12 t225 t226 1).bind fun bt243 => (if bt243.1 < 0 then (laws_FnExactFrogTo.j1 kj12 a1 a2 t222 t223 true a0_0 l0_1 t218 t219 t230 t231) else ((laws_eqFabric.f kj12 t230 t231 t218 t219).bind fun t245 => (if t245 = true then (if t234 = t222 then (laws_FnExactFrogTo.j1 kj12 a1 a2 t222 t223 (t235 != t223) a0_0 l0_1 t218 t219 t230 t231) else (laws_FnExactFrogTo.j1 kj12 a1 a2 t222 t223 true a0_0 l0_1 t218 t219 t230 t231)) else (laws_FnExactFrogTo.j1 kj12 a1 a2 t222 t223 true a0_0 l0_1 t218 t219 t230 t231))))) else (none))) = some r := H
          have A67 := Aside0.mk A670
          clear A670
          replace H := Option.bind_eq_some_iff.mp H
          obtain ⟨t242, A680, H⟩ := H
          replace H : (if t242 = true then ((laws_markFabric.f kj12 t225 t226 1).bind fun bt243 => (if bt243.1 < 0 then (laws_FnExactFrogTo.j1 kj12 a1 a2 t222 t223 true a0_0 l0_1 t218 t219 t230 t231) else ((laws_eqFabric.f kj12 t230 t231 t218 t219).bind fun t245 => (if t245 = true then (if t234 = t222 then (laws_FnExactFrogTo.j1 kj12 a1 a2 t222 t223 (t235 != t223) a0_0 l0_1 t218 t219 t230 t231) else (laws_FnExactFrogTo.j1 kj12 a1 a2 t222 t223 true a0_0 l0_1 t218 t219 t230 t231)) else (laws_FnExactFrogTo.j1 kj12 a1 a2 t222 t223 true a0_0 l0_1 t218 t219 t230 t231))))) else (none)) = some r := H
          have A68 := Aside0.mk A680
          clear A680
          by_cases c69 : t242 = true
          · subst c69
            have H1 : ((laws_markFabric.f kj12 t225 t226 1).bind fun bt243 => (if bt243.1 < 0 then (laws_FnExactFrogTo.j1 kj12 a1 a2 t222 t223 true a0_0 l0_1 t218 t219 t230 t231) else ((laws_eqFabric.f kj12 t230 t231 t218 t219).bind fun t245 => (if t245 = true then (if t234 = t222 then (laws_FnExactFrogTo.j1 kj12 a1 a2 t222 t223 (t235 != t223) a0_0 l0_1 t218 t219 t230 t231) else (laws_FnExactFrogTo.j1 kj12 a1 a2 t222 t223 true a0_0 l0_1 t218 t219 t230 t231)) else (laws_FnExactFrogTo.j1 kj12 a1 a2 t222 t223 true a0_0 l0_1 t218 t219 t230 t231))))) = some r := by rw [if_pos rfl] at H; exact H
            clear H
            have H := H1
            clear H1
            replace H := Option.bind_eq_some_iff.mp H
            obtain ⟨⟨t243, t244⟩, A700, H⟩ := H
            replace H : (if t243 < 0 then (laws_FnExactFrogTo.j1 kj12 a1 a2 t222 t223 true a0_0 l0_1 t218 t219 t230 t231) else ((laws_eqFabric.f kj12 t230 t231 t218 t219).bind fun t245 => (if t245 = true then (if t234 = t222 then (laws_FnExactFrogTo.j1 kj12 a1 a2 t222 t223 (t235 != t223) a0_0 l0_1 t218 t219 t230 t231) else (laws_FnExactFrogTo.j1 kj12 a1 a2 t222 t223 true a0_0 l0_1 t218 t219 t230 t231)) else (laws_FnExactFrogTo.j1 kj12 a1 a2 t222 t223 true a0_0 l0_1 t218 t219 t230 t231)))) = some r := H
            have A70 := Aside0.mk A700
            clear A700
            have HC71 := Aside0.mk H
            clear H
            try go_wp2
            have n0_ := Aside0.mk (Kd.R_drew HO_225001.out)
            have n1_ := Aside0.mk (Kd.R_drew HO_230001.out)
            have n2_ := Aside0.mk (Kd.R_drew HO_237001.out)
            have n3_ := Aside0.mk (blk_drew BK212.out)
            have n4_ := Aside0.mk (blk_drew BK224.out)
            have n5_ := Aside0.mk (blk_drew BK229.out)
            have n6_ := Aside0.mk (blk_drew BK236.out)
            have n7_ := Aside0.mk (below_drew1 HB.out)
            clear HO_225001
            clear HO_230001
            clear HO_237001
            clear BK212
            clear BK224
            clear BK229
            clear BK236
            clear HB
            have HO_225001 := n0_
            have HO_230001 := n1_
            have HO_237001 := n2_
            have BK212 := n3_
            have BK224 := n4_
            have BK229 := n5_
            have BK236 := n6_
            have HB := n7_
            clear n0_ n1_ n2_ n3_ n4_ n5_ n6_ n7_
            refine start_ (n := 5) (S := fun w' => w'.cell? ⟨gb229, 0, none⟩ = some (.int .i16 t225) ∧ w'.cell? ⟨gb229, 1, none⟩ = some (.slice Ao31 t226.length co31) ∧ w'.cell? ⟨gb212, 0, none⟩ = some (.int .i16 a0_0) ∧ w'.cell? ⟨gb212, 1, none⟩ = some (.slice A0_1 l0_1.length c0_1)) (ds := []) #[false, false, false, false, false] (by kernel_rfl) rfl rfl ⟨(blk_cell BK229.out 0).trans rfl, (blk_cell BK229.out 1).trans rfl, (blk_cell BK212.out 0).trans rfl, (blk_cell BK212.out 1).trans rfl⟩ (fun hHeld => ?_)
            generalize wc.drew = w72 at HO_225001 HO_230001 HO_237001 BK212 BK224 BK229 BK236 HB hHeld ⊢
            refine take_ (i := 0) (N := some 59) (v := ?_) (a' := ?_) #[true, false, false, false, false] rfl rfl (by kernel_rfl) (fun _ _ _ h => h) (Or.inl ⟨by rfl, ?_⟩) hHeld ?_ ?_
            rotate_left
            · rintro w' ⟨s0, s1, s2, s3⟩
              go_simp
              with_reducible rfl
            rotate_left
            · simp only [Act.put, List.setIfInBounds_toArray, List.set_cons_zero, List.set_cons_succ, i64_w, i32_w]
              rfl
            refine take_ (i := 1) (N := some 60) (v := ?_) (a' := ?_) #[true, true, false, false, false] rfl rfl (by kernel_rfl) (fun _ _ _ h => h) (Or.inl ⟨by rfl, ?_⟩) hHeld ?_ ?_
            rotate_left
            · rintro w' ⟨s0, s1, s2, s3⟩
              go_simp
              with_reducible rfl
            rotate_left
            · simp only [Act.put, List.setIfInBounds_toArray, List.set_cons_zero, List.set_cons_succ, i64_w, i32_w]
              rfl
            refine one_ (i := 2) (N := some 61) #[true, true, true, false, false] rfl rfl (by kernel_rfl) (by decide) (fun K hK => ?_)
            refine goes_ Try.func34 (by kernel_rfl) rfl #[.agg #[.int .i16 a0_0, .slice A0_1 l0_1.length c0_1]] (by rfl) rfl rfl (by (try simp only [List.map_toArray, List.map_cons, List.map_nil]); first | done | rfl | (simp only [List.length_drop, List.length_take]; rfl)) ?_
            with_reducible refine (laws_toFabric.calls kj12 a0_0 _ _ l0_1 t238 t239 _ ?side1 ?side2 A67.out).mono ?_
            (case side1 => repeat (first | exact (Kd.C_below HR0_1.out HB.out) | (with_reducible refine Kd.C_alloc ?_ _) | (with_reducible refine Kd.C_drewN ?_ _) | (with_reducible refine Kd.C_drew ?_)))
            (case side2 => exact HC0_1.out)
            rintro e w73 ⟨v240, rfl, ho0, hb⟩
            refine ⟨_, rfl, ?_⟩
            have n0_ := Aside0.mk (Kd.R_elder' (by (with_reducible repeat (first | apply Kd.R_alloc | apply Kd.R_drewN | apply Kd.R_drew)); exact HO_225001.out) (Kd.R_base ho0) hb)
            have n1_ := Aside0.mk (Kd.R_elder' (by (with_reducible repeat (first | apply Kd.R_alloc | apply Kd.R_drewN | apply Kd.R_drew)); exact HO_230001.out) (Kd.R_base ho0) hb)
            have n2_ := Aside0.mk (Kd.R_elder' (by (with_reducible repeat (first | apply Kd.R_alloc | apply Kd.R_drewN | apply Kd.R_drew)); exact HO_237001.out) (Kd.R_base ho0) hb)
            have n3_ := Aside0.mk (Kd.R_lower (Kd.R_new' (Kd.R_new' (Kd.R_new' ho0 (Kd.R_lt (by (with_reducible repeat (first | apply Kd.R_alloc | apply Kd.R_drewN | apply Kd.R_drew)); exact HO_225001.out))) (Kd.R_lt (by (with_reducible repeat (first | apply Kd.R_alloc | apply Kd.R_drewN | apply Kd.R_drew)); exact HO_230001.out))) (Kd.R_lt (by (with_reducible repeat (first | apply Kd.R_alloc | apply Kd.R_drewN | apply Kd.R_drew)); exact HO_237001.out))) (below_size (by repeat (first | (with_reducible first | exact HB.out | apply below_alloc | apply pw_below_drewN | apply below_drew1 | refine below_set ?_ GE212.out | refine below_set ?_ GE224.out | refine below_set ?_ GE229.out | refine below_set ?_ GE236.out) | exact HB.out))))
            have n4_ := Aside0.mk (blk_below (g := gb212) (o := .cells #[.int .i16 a0_0, .slice A0_1 l0_1.length c0_1] 55 (0, 0)) (by (with_reducible repeat (first | refine blk_drewN ?_ _ | refine blk_drew ?_ | refine blk_alloc ?_ _)); exact BK212.out) hb)
            have n5_ := Aside0.mk (blk_below (g := gb224) (o := .cells #[.int .i16 t218, .slice Ao24 t219.length co24] 57 (0, 0)) (by (with_reducible repeat (first | refine blk_drewN ?_ _ | refine blk_drew ?_ | refine blk_alloc ?_ _)); exact BK224.out) hb)
            have n6_ := Aside0.mk (blk_below (g := gb229) (o := .cells #[.int .i16 t225, .slice Ao31 t226.length co31] 57 (0, 0)) (by (with_reducible repeat (first | refine blk_drewN ?_ _ | refine blk_drew ?_ | refine blk_alloc ?_ _)); exact BK229.out) hb)
            have n7_ := Aside0.mk (blk_below (g := gb236) (o := .cells #[.int .i16 t230, .slice Ao38 t231.length co38] 57 (0, 0)) (by (with_reducible repeat (first | refine blk_drewN ?_ _ | refine blk_drew ?_ | refine blk_alloc ?_ _)); exact BK236.out) hb)
            have n8_ := Aside0.mk (below_step (by repeat (first | (with_reducible first | exact HB.out | apply below_alloc | apply pw_below_drewN | apply below_drew1 | refine below_set ?_ GE212.out | refine below_set ?_ GE224.out | refine below_set ?_ GE229.out | refine below_set ?_ GE236.out) | exact HB.out)) hb)
            clear HO_225001
            clear HO_230001
            clear HO_237001
            clear BK212
            clear BK224
            clear BK229
            clear BK236
            clear HB
            have HO_225001 := n0_
            have HO_230001 := n1_
            have HO_237001 := n2_
            have HO241 := n3_
            have BK212 := n4_
            have BK224 := n5_
            have BK229 := n6_
            have BK236 := n7_
            have HB := n8_
            clear n0_ n1_ n2_ n3_ n4_ n5_ n6_ n7_ n8_
            (try clear hb)
            (try clear hb2)
            (try clear hk)
            (try clear hi)
            (try clear ho0)
            obtain ⟨Ao74, co74, eo74⟩ := Kd.R_slice HO241.out
            (first | subst eo74 | (injection eo74 with f1_ f2_ f3_; have f4_ := f1_.symm; have f5_ := f3_.symm; clear f1_ f2_ f3_; subst f4_; subst f5_))
            refine hK.out _ _ ⟨(blk_cell BK229.out 0).trans rfl, (blk_cell BK229.out 1).trans rfl, (blk_cell BK212.out 0).trans rfl, (blk_cell BK212.out 1).trans rfl⟩ (fun hHeld => ?_)
            clear hK K
            refine norm_ (a' := ?_) ?_ ?_
            rotate_left
            · show Act.put _ (some 61) _ = _
              simp only [Act.put, List.setIfInBounds_toArray, List.set_cons_zero, List.set_cons_succ, i64_w, i32_w]
              rfl
            refine one_ (i := 3) (N := some 62) #[true, true, true, true, false] rfl rfl (by kernel_rfl) (by decide) (fun K hK => ?_)
            refine goes_ Try.func36 (by kernel_rfl) rfl #[.agg #[.int .i16 t225, .slice Ao31 t226.length co31], .agg #[.int .i16 t238, .slice Ao74 t239.length co74]] (by rfl) rfl rfl (by (try simp only [List.map_toArray, List.map_cons, List.map_nil]); first | done | rfl | (simp only [List.length_drop, List.length_take]; rfl)) ?_
            with_reducible refine (laws_eqFabric.calls kj12 t225 _ _ t226 t238 _ _ t239 true _ ?side1 ?side2 ?side3 ?side4 A68.out).mono ?_
            (case side1 => repeat (first | exact (Kd.R_reads' HO_230001.out).2.2 | (with_reducible refine Kd.C_alloc ?_ _) | (with_reducible refine Kd.C_drewN ?_ _) | (with_reducible refine Kd.C_drew ?_)))
            (case side2 => exact (Kd.R_reads' HO_230001.out).2.1)
            (case side3 => repeat (first | exact (Kd.R_reads' HO241.out).2.2 | (with_reducible refine Kd.C_alloc ?_ _) | (with_reducible refine Kd.C_drewN ?_ _) | (with_reducible refine Kd.C_drew ?_)))
            (case side4 => exact (Kd.R_reads' HO241.out).2.1)
            rintro e w75 ⟨rfl, hb⟩
            refine ⟨_, rfl, ?_⟩
            have n0_ := Aside0.mk (Kd.R_below (by (with_reducible repeat (first | apply Kd.R_alloc | apply Kd.R_drewN | apply Kd.R_drew)); exact HO_225001.out) hb)
            have n1_ := Aside0.mk (Kd.R_below (by (with_reducible repeat (first | apply Kd.R_alloc | apply Kd.R_drewN | apply Kd.R_drew)); exact HO_230001.out) hb)
            have n2_ := Aside0.mk (Kd.R_below (by (with_reducible repeat (first | apply Kd.R_alloc | apply Kd.R_drewN | apply Kd.R_drew)); exact HO_237001.out) hb)
            have n3_ := Aside0.mk (Kd.R_below (by (with_reducible repeat (first | apply Kd.R_alloc | apply Kd.R_drewN | apply Kd.R_drew)); exact HO241.out) hb)
            have n4_ := Aside0.mk (blk_below (g := gb212) (o := .cells #[.int .i16 a0_0, .slice A0_1 l0_1.length c0_1] 55 (0, 0)) (by (with_reducible repeat (first | refine blk_drewN ?_ _ | refine blk_drew ?_ | refine blk_alloc ?_ _)); exact BK212.out) hb)
            have n5_ := Aside0.mk (blk_below (g := gb224) (o := .cells #[.int .i16 t218, .slice Ao24 t219.length co24] 57 (0, 0)) (by (with_reducible repeat (first | refine blk_drewN ?_ _ | refine blk_drew ?_ | refine blk_alloc ?_ _)); exact BK224.out) hb)
            have n6_ := Aside0.mk (blk_below (g := gb229) (o := .cells #[.int .i16 t225, .slice Ao31 t226.length co31] 57 (0, 0)) (by (with_reducible repeat (first | refine blk_drewN ?_ _ | refine blk_drew ?_ | refine blk_alloc ?_ _)); exact BK229.out) hb)
            have n7_ := Aside0.mk (blk_below (g := gb236) (o := .cells #[.int .i16 t230, .slice Ao38 t231.length co38] 57 (0, 0)) (by (with_reducible repeat (first | refine blk_drewN ?_ _ | refine blk_drew ?_ | refine blk_alloc ?_ _)); exact BK236.out) hb)
            have n8_ := Aside0.mk (below_step (by repeat (first | (with_reducible first | exact HB.out | apply below_alloc | apply pw_below_drewN | apply below_drew1 | refine below_set ?_ GE212.out | refine below_set ?_ GE224.out | refine below_set ?_ GE229.out | refine below_set ?_ GE236.out) | exact HB.out)) hb)
            clear HO_225001
            clear HO_230001
            clear HO_237001
            clear HO241
            clear BK212
            clear BK224
            clear BK229
            clear BK236
            clear HB
            have HO_225001 := n0_
            have HO_230001 := n1_
            have HO_237001 := n2_
            have HO241 := n3_
            have BK212 := n4_
            have BK224 := n5_
            have BK229 := n6_
            have BK236 := n7_
            have HB := n8_
            clear n0_ n1_ n2_ n3_ n4_ n5_ n6_ n7_ n8_
            (try clear hb)
            (try clear hb2)
            (try clear hk)
            (try clear hi)
            refine hK.out _ _ ⟨(blk_cell BK229.out 0).trans rfl, (blk_cell BK229.out 1).trans rfl, (blk_cell BK212.out 0).trans rfl, (blk_cell BK212.out 1).trans rfl⟩ (fun hHeld => ?_)
            clear hK K
            refine norm_ (a' := ?_) ?_ ?_
            rotate_left
            · show Act.put _ (some 62) _ = _
              simp only [Act.put, List.setIfInBounds_toArray, List.set_cons_zero, List.set_cons_succ, i64_w, i32_w]
              rfl
            refine pure_ (i := 4) (N := some 63) (v := ?_) (a' := ?_) #[true, true, true, true, true] rfl rfl (by kernel_rfl) (fun _ _ _ h => h) (Or.inl ⟨by rfl, ?_⟩) ?_ ?_
            rotate_left
            · intro w'
              go_simp
              with_reducible rfl
            rotate_left
            · simp only [Act.put, List.setIfInBounds_toArray, List.set_cons_zero, List.set_cons_succ, i64_w, i32_w]
              rfl
            refine done_ (by kernel_rfl) ?_
            have hnb76 := NB229_212.out
            have hnc76 := NB212_229.out
            have hnb77 := NB229_224.out
            have hnc77 := NB224_229.out
            have hnb78 := NB229_236.out
            have hnc78 := NB236_229.out
            have hcz79_0 : w75.cell? ⟨gb229, 0, none⟩ = some (.int .i16 t225) := (blk_cell BK229.out 0).trans rfl
            have hcz79_1 : w75.cell? ⟨gb229, 1, none⟩ = some (.slice Ao31 t226.length co31) := (blk_cell BK229.out 1).trans rfl
            have hfz79_0 := blk_frozen BK229.out 0
            have hfz79_1 := blk_frozen BK229.out 1
            go_upto_region 14 with (first | ((with_reducible refine gate_callee (f := 37) rfl ?_); refine goesL_ (some 66) rfl rfl Try.func37 (by kernel_rfl) rfl #[.agg #[.int .i16 t225, .slice Ao31 t226.length co31], .int .i64 1] rfl (by (try simp only [List.map_toArray, List.map_cons, List.map_nil]); first | done | rfl | (simp only [List.length_drop, List.length_take]; rfl)) ?_; (with_reducible refine (laws_markFabric.calls kj12 t225 (fun k_ => some k_ = (.slice Ao31 t226.length co31 : Value).ownBlock) (.slice Ao31 t226.length co31) t226 1 t243 t244 w _ ?side1 ?side2 A70.out).mono ?_); (case side1 => repeat (first | (with_reducible first | exact HB.out | apply below_alloc | apply pw_below_drewN | apply below_drew1 | refine below_set ?_ GE212.out | refine below_set ?_ GE224.out | refine below_set ?_ GE229.out | refine below_set ?_ GE236.out) | exact HB.out)); (case side2 => exact Kd.R_tight rfl HO_230001.out); rintro e w80 ⟨rfl, hy0, hb, hkp⟩; refine ⟨_, rfl, ?_⟩; have n0_ := Aside0.mk (Kd.R_mono (ok' := fun k_ => some k_ ≠ (.slice Ao31 t226.length co31 : Value).ownBlock ∧ some k_ ≠ (.slice Ao38 t231.length co38 : Value).ownBlock ∧ some k_ ≠ (.slice Ao74 t239.length co74 : Value).ownBlock) (Kd.R_keptB (HO_225001.out) hkp (fun k_ hk_ hs_ => (hk_.1.1) hs_)) (fun k_ hk_ => ⟨hk_.1.1.1, hk_.1.1.2, hk_.1.2⟩)); have n1_ := Aside0.mk (Kd.R_reok rfl hy0 (fun k_ e_ => HO_230001.out.1 k_ e_)); have n2_ := Aside0.mk (Kd.R_mono (ok' := fun k_ => some k_ ≠ (.slice Ao24 t219.length co24 : Value).ownBlock ∧ some k_ ≠ (.slice Ao31 t226.length co31 : Value).ownBlock ∧ some k_ ≠ (.slice Ao74 t239.length co74 : Value).ownBlock) (Kd.R_keptB (HO_237001.out) hkp (fun k_ hk_ hs_ => (hk_.1.2) hs_)) (fun k_ hk_ => ⟨hk_.1.1.1, hk_.1.1.2, hk_.1.2⟩)); have n3_ := Aside0.mk (blk_kept (by (with_reducible repeat (first | refine blk_drewN ?_ _ | refine blk_drew ?_ | refine blk_alloc ?_ _)); exact BK212.out) hkp (fun hs_ => (fun e_ => (Kd.R_ne HO_230001.out BK212.out (by decide)) e_) hs_)); have n4_ := Aside0.mk (blk_kept (by (with_reducible repeat (first | refine blk_drewN ?_ _ | refine blk_drew ?_ | refine blk_alloc ?_ _)); exact BK224.out) hkp (fun hs_ => (fun e_ => (Kd.R_ne HO_230001.out BK224.out (by decide)) e_) hs_)); have n5_ := Aside0.mk (blk_kept (by (with_reducible repeat (first | refine blk_drewN ?_ _ | refine blk_drew ?_ | refine blk_alloc ?_ _)); exact BK229.out) hkp (fun hs_ => (fun e_ => (Kd.R_ne HO_230001.out BK229.out (by decide)) e_) hs_)); have n6_ := Aside0.mk (blk_kept (by (with_reducible repeat (first | refine blk_drewN ?_ _ | refine blk_drew ?_ | refine blk_alloc ?_ _)); exact BK236.out) hkp (fun hs_ => (fun e_ => (Kd.R_ne HO_230001.out BK236.out (by decide)) e_) hs_)); have n7_ := Aside0.mk (Kd.R_mono (ok' := fun k_ => some k_ ≠ (.slice Ao24 t219.length co24 : Value).ownBlock ∧ some k_ ≠ (.slice Ao31 t226.length co31 : Value).ownBlock ∧ some k_ ≠ (.slice Ao38 t231.length co38 : Value).ownBlock) (Kd.R_keptB (HO241.out) hkp (fun k_ hk_ hs_ => (hk_.1.2) hs_)) (fun k_ hk_ => ⟨hk_.1.1.1.2, hk_.1.1.2, hk_.1.2⟩)); have n8_ := Aside0.mk (hb); clear HO_225001; clear HO_230001; clear HO_237001; clear BK212; clear BK224; clear BK229; clear BK236; clear HO241; clear HB; have HO_225001 := n0_; have HO_230001 := n1_; have HO_237001 := n2_; have BK212 := n3_; have BK224 := n4_; have BK229 := n5_; have BK236 := n6_; have HO241 := n7_; have HB := n8_; clear n0_ n1_ n2_ n3_ n4_ n5_ n6_ n7_ n8_; (try clear hb); (try clear hkp); (try clear hy0)))
            (try simp only [Act.put, List.setIfInBounds_toArray, List.set_cons_zero, List.set_cons_succ])
            go_cut [84] (fun v84 wc => ∃ (kq : Nat) (x84_70 : Bool), v84 = .bool x84_70 ∧ Aside0 (laws_FnExactFrogTo.j1 kq a1 a2 t222 t223 x84_70 a0_0 l0_1 t218 t219 t230 t231 = some r) ∧ Aside0 (kq ≤ kj12) ∧ Aside0 (Kd.R Kd.string 9 wc w.heap.size (fun k_ => some k_ ≠ ((.slice Ao31 t226.length co31) : Value).ownBlock ∧ some k_ ≠ ((.slice Ao38 t231.length co38) : Value).ownBlock) (.slice Ao24 t219.length co24) t219) ∧ Aside0 (Kd.R Kd.string 9 wc w.heap.size (fun k_ => some k_ ≠ ((.slice Ao24 t219.length co24) : Value).ownBlock ∧ some k_ ≠ ((.slice Ao38 t231.length co38) : Value).ownBlock) (.slice Ao31 t226.length co31) t244) ∧ Aside0 (Kd.R Kd.string 9 wc w.heap.size (fun k_ => some k_ ≠ ((.slice Ao24 t219.length co24) : Value).ownBlock ∧ some k_ ≠ ((.slice Ao31 t226.length co31) : Value).ownBlock) (.slice Ao38 t231.length co38) t231) ∧ Aside0 (wc.heap[gb212]? = some (.cells #[.int .i16 a0_0, (.slice A0_1 l0_1.length c0_1)] 55 (0, 0))) ∧ Aside0 (wc.heap[gb224]? = some (.cells #[.int .i16 t218, (.slice Ao24 t219.length co24)] 57 (0, 0))) ∧ Aside0 (wc.heap[gb229]? = some (.cells #[.int .i16 t225, (.slice Ao31 t226.length co31)] 57 (0, 0))) ∧ Aside0 (wc.heap[gb236]? = some (.cells #[.int .i16 t230, (.slice Ao38 t231.length co38)] 57 (0, 0))) ∧ Aside0 (Below w.heap.size w wc))
            case first =>
              as_aux_lemma =>
              have H := HC71.out
              clear HC71
              by_cases c81 : t243 < 0
              · rw [if_pos c81] at H
                have c81b0 : decide (t243 < 0) = true := decide_eq_true c81
                clear c81
                (first | rw [c81b0] | (simp only [i64_w, i32_w]; rw [c81b0]) | skip)
                have H' := Aside0.mk H
                clear H
                go_wp2
                go_meet
                case rel => exact ⟨_, (true), (by first | rfl | (simp; done) | (simp [*]; done)), H', ⟨by have := HJ12.out; first | omega | exact Nat.le_refl _⟩, ⟨by (with_reducible repeat (first | apply Kd.R_alloc | apply Kd.R_drewN | apply Kd.R_drew)); exact Kd.R_mono HO_225001.out (fun _ hk => ⟨hk.1, hk.2.1⟩)⟩, ⟨by (with_reducible repeat (first | apply Kd.R_alloc | apply Kd.R_drewN | apply Kd.R_drew)); exact Kd.R_mono HO_230001.out (fun _ hk => ⟨hk.1.1, hk.1.2⟩)⟩, ⟨by (with_reducible repeat (first | apply Kd.R_alloc | apply Kd.R_drewN | apply Kd.R_drew)); exact Kd.R_mono HO_237001.out (fun _ hk => ⟨hk.1, hk.2.1⟩)⟩, ⟨by (with_reducible repeat (first | refine blk_drewN ?_ _ | refine blk_drew ?_ | refine blk_alloc ?_ _)); exact BK212.out⟩, ⟨by (with_reducible repeat (first | refine blk_drewN ?_ _ | refine blk_drew ?_ | refine blk_alloc ?_ _)); exact BK224.out⟩, ⟨by (with_reducible repeat (first | refine blk_drewN ?_ _ | refine blk_drew ?_ | refine blk_alloc ?_ _)); exact BK229.out⟩, ⟨by (with_reducible repeat (first | refine blk_drewN ?_ _ | refine blk_drew ?_ | refine blk_alloc ?_ _)); exact BK236.out⟩, ⟨by repeat (first | (with_reducible first | exact HB.out | apply below_alloc | apply pw_below_drewN | apply below_drew1 | refine below_set ?_ GE212.out | refine below_set ?_ GE224.out | refine below_set ?_ GE229.out | refine below_set ?_ GE236.out) | exact HB.out)⟩⟩
              · rw [if_neg c81] at H
                have c81b0 : decide (t243 < 0) = false := decide_eq_false c81
                clear c81
                (first | rw [c81b0] | (simp only [i64_w, i32_w]; rw [c81b0]) | skip)
                replace H := Option.bind_eq_some_iff.mp H
                obtain ⟨t245, A820, H⟩ := H
                replace H : (if t245 = true then (if t234 = t222 then (laws_FnExactFrogTo.j1 kj12 a1 a2 t222 t223 (t235 != t223) a0_0 l0_1 t218 t219 t230 t231) else (laws_FnExactFrogTo.j1 kj12 a1 a2 t222 t223 true a0_0 l0_1 t218 t219 t230 t231)) else (laws_FnExactFrogTo.j1 kj12 a1 a2 t222 t223 true a0_0 l0_1 t218 t219 t230 t231)) = some r := H
                have A82 := Aside0.mk A820
                clear A820
                by_cases c83 : t245 = true
                · subst c83
                  have H1 : (if t234 = t222 then (laws_FnExactFrogTo.j1 kj12 a1 a2 t222 t223 (t235 != t223) a0_0 l0_1 t218 t219 t230 t231) else (laws_FnExactFrogTo.j1 kj12 a1 a2 t222 t223 true a0_0 l0_1 t218 t219 t230 t231)) = some r := by rw [if_pos rfl] at H; exact H
                  clear H
                  have H := H1
                  clear H1
                  by_cases c84 : t234 = t222
                  · rw [if_pos c84] at H
                    have c84b0 : (t234 == t222) = true := beq_iff_eq.mpr c84
                    have c84b1 : (t234 != t222) = false := bne_eq_false_iff_eq.mpr c84
                    clear c84
                    have H' := Aside0.mk H
                    clear H
                    have hnb85 := NB236_212.out
                    have hnc85 := NB212_236.out
                    have hnb86 := NB236_224.out
                    have hnc86 := NB224_236.out
                    have hnb87 := NB236_229.out
                    have hnc87 := NB229_236.out
                    have hcz88_0 : w80.cell? ⟨gb236, 0, none⟩ = some (.int .i16 t230) := (blk_cell BK236.out 0).trans rfl
                    have hcz88_1 : w80.cell? ⟨gb236, 1, none⟩ = some (.slice Ao38 t231.length co38) := (blk_cell BK236.out 1).trans rfl
                    have hfz88_0 := blk_frozen BK236.out 0
                    have hfz88_1 := blk_frozen BK236.out 1
                    have hnb89 := NB224_212.out
                    have hnc89 := NB212_224.out
                    have hnb90 := NB224_229.out
                    have hnc90 := NB229_224.out
                    have hcz91_0 : w80.cell? ⟨gb224, 0, none⟩ = some (.int .i16 t218) := (blk_cell BK224.out 0).trans rfl
                    have hcz91_1 : w80.cell? ⟨gb224, 1, none⟩ = some (.slice Ao24 t219.length co24) := (blk_cell BK224.out 1).trans rfl
                    have hfz91_0 := blk_frozen BK224.out 0
                    have hfz91_1 := blk_frozen BK224.out 1
                    go_wp2_with (first | (go_at_call 36; (with_reducible refine (laws_eqFabric.calls kj12 t230 _ _ t231 t218 _ _ t219 true _ ?side1 ?side2 ?side3 ?side4 A82.out).mono ?_); (case side1 => repeat (first | exact (Kd.R_reads' HO_237001.out).2.2 | (with_reducible refine Kd.C_alloc ?_ _) | (with_reducible refine Kd.C_drewN ?_ _) | (with_reducible refine Kd.C_drew ?_))); (case side2 => exact (Kd.R_reads' HO_237001.out).2.1); (case side3 => repeat (first | exact (Kd.R_reads' HO_225001.out).2.2 | (with_reducible refine Kd.C_alloc ?_ _) | (with_reducible refine Kd.C_drewN ?_ _) | (with_reducible refine Kd.C_drew ?_))); (case side4 => exact (Kd.R_reads' HO_225001.out).2.1); rintro e w92 ⟨rfl, hb⟩; have n0_ := Aside0.mk (Kd.R_below (by (with_reducible repeat (first | apply Kd.R_alloc | apply Kd.R_drewN | apply Kd.R_drew)); exact HO_225001.out) hb); have n1_ := Aside0.mk (Kd.R_below (by (with_reducible repeat (first | apply Kd.R_alloc | apply Kd.R_drewN | apply Kd.R_drew)); exact HO_230001.out) hb); have n2_ := Aside0.mk (Kd.R_below (by (with_reducible repeat (first | apply Kd.R_alloc | apply Kd.R_drewN | apply Kd.R_drew)); exact HO_237001.out) hb); have n3_ := Aside0.mk (Kd.R_below (by (with_reducible repeat (first | apply Kd.R_alloc | apply Kd.R_drewN | apply Kd.R_drew)); exact HO241.out) hb); have n4_ := Aside0.mk (blk_below (g := gb212) (o := .cells #[.int .i16 a0_0, .slice A0_1 l0_1.length c0_1] 55 (0, 0)) (by (with_reducible repeat (first | refine blk_drewN ?_ _ | refine blk_drew ?_ | refine blk_alloc ?_ _)); exact BK212.out) hb); have n5_ := Aside0.mk (blk_below (g := gb224) (o := .cells #[.int .i16 t218, .slice Ao24 t219.length co24] 57 (0, 0)) (by (with_reducible repeat (first | refine blk_drewN ?_ _ | refine blk_drew ?_ | refine blk_alloc ?_ _)); exact BK224.out) hb); have n6_ := Aside0.mk (blk_below (g := gb229) (o := .cells #[.int .i16 t225, .slice Ao31 t226.length co31] 57 (0, 0)) (by (with_reducible repeat (first | refine blk_drewN ?_ _ | refine blk_drew ?_ | refine blk_alloc ?_ _)); exact BK229.out) hb); have n7_ := Aside0.mk (blk_below (g := gb236) (o := .cells #[.int .i16 t230, .slice Ao38 t231.length co38] 57 (0, 0)) (by (with_reducible repeat (first | refine blk_drewN ?_ _ | refine blk_drew ?_ | refine blk_alloc ?_ _)); exact BK236.out) hb); have n8_ := Aside0.mk (below_step (by repeat (first | (with_reducible first | exact HB.out | apply below_alloc | apply pw_below_drewN | apply below_drew1 | refine below_set ?_ GE212.out | refine below_set ?_ GE224.out | refine below_set ?_ GE229.out | refine below_set ?_ GE236.out) | exact HB.out)) hb); clear HO_225001; clear HO_230001; clear HO_237001; clear HO241; clear BK212; clear BK224; clear BK229; clear BK236; clear HB; have HO_225001 := n0_; have HO_230001 := n1_; have HO_237001 := n2_; have HO241 := n3_; have BK212 := n4_; have BK224 := n5_; have BK229 := n6_; have BK236 := n7_; have HB := n8_; clear n0_ n1_ n2_ n3_ n4_ n5_ n6_ n7_ n8_; (try clear hb); (try clear hb2); (try clear hk); (try clear hi)))
                    go_meet
                    case rel => exact ⟨_, ((t235 != t223)), (by first | rfl | (simp; done) | (simp [*]; done)), H', ⟨by have := HJ12.out; first | omega | exact Nat.le_refl _⟩, ⟨by (with_reducible repeat (first | apply Kd.R_alloc | apply Kd.R_drewN | apply Kd.R_drew)); exact Kd.R_mono HO_225001.out (fun _ hk => ⟨hk.1, hk.2.1⟩)⟩, ⟨by (with_reducible repeat (first | apply Kd.R_alloc | apply Kd.R_drewN | apply Kd.R_drew)); exact Kd.R_mono HO_230001.out (fun _ hk => ⟨hk.1.1, hk.1.2⟩)⟩, ⟨by (with_reducible repeat (first | apply Kd.R_alloc | apply Kd.R_drewN | apply Kd.R_drew)); exact Kd.R_mono HO_237001.out (fun _ hk => ⟨hk.1, hk.2.1⟩)⟩, ⟨by (with_reducible repeat (first | refine blk_drewN ?_ _ | refine blk_drew ?_ | refine blk_alloc ?_ _)); exact BK212.out⟩, ⟨by (with_reducible repeat (first | refine blk_drewN ?_ _ | refine blk_drew ?_ | refine blk_alloc ?_ _)); exact BK224.out⟩, ⟨by (with_reducible repeat (first | refine blk_drewN ?_ _ | refine blk_drew ?_ | refine blk_alloc ?_ _)); exact BK229.out⟩, ⟨by (with_reducible repeat (first | refine blk_drewN ?_ _ | refine blk_drew ?_ | refine blk_alloc ?_ _)); exact BK236.out⟩, ⟨by repeat (first | (with_reducible first | exact HB.out | apply below_alloc | apply pw_below_drewN | apply below_drew1 | refine below_set ?_ GE212.out | refine below_set ?_ GE224.out | refine below_set ?_ GE229.out | refine below_set ?_ GE236.out) | exact HB.out)⟩⟩
                  · rw [if_neg c84] at H
                    have c84b0 : (t234 == t222) = false := beq_eq_false_iff_ne.mpr c84
                    have c84b1 : (t234 != t222) = true := bne_iff_ne.mpr c84
                    have H' := Aside0.mk H
                    clear H
                    have hnb93 := NB236_212.out
                    have hnc93 := NB212_236.out
                    have hnb94 := NB236_224.out
                    have hnc94 := NB224_236.out
                    have hnb95 := NB236_229.out
                    have hnc95 := NB229_236.out
                    have hcz96_0 : w80.cell? ⟨gb236, 0, none⟩ = some (.int .i16 t230) := (blk_cell BK236.out 0).trans rfl
                    have hcz96_1 : w80.cell? ⟨gb236, 1, none⟩ = some (.slice Ao38 t231.length co38) := (blk_cell BK236.out 1).trans rfl
                    have hfz96_0 := blk_frozen BK236.out 0
                    have hfz96_1 := blk_frozen BK236.out 1
                    have hnb97 := NB224_212.out
                    have hnc97 := NB212_224.out
                    have hnb98 := NB224_229.out
                    have hnc98 := NB229_224.out
                    have hcz99_0 : w80.cell? ⟨gb224, 0, none⟩ = some (.int .i16 t218) := (blk_cell BK224.out 0).trans rfl
                    have hcz99_1 : w80.cell? ⟨gb224, 1, none⟩ = some (.slice Ao24 t219.length co24) := (blk_cell BK224.out 1).trans rfl
                    have hfz99_0 := blk_frozen BK224.out 0
                    have hfz99_1 := blk_frozen BK224.out 1
                    go_wp2_with (first | (go_at_call 36; (with_reducible refine (laws_eqFabric.calls kj12 t230 _ _ t231 t218 _ _ t219 true _ ?side1 ?side2 ?side3 ?side4 A82.out).mono ?_); (case side1 => repeat (first | exact (Kd.R_reads' HO_237001.out).2.2 | (with_reducible refine Kd.C_alloc ?_ _) | (with_reducible refine Kd.C_drewN ?_ _) | (with_reducible refine Kd.C_drew ?_))); (case side2 => exact (Kd.R_reads' HO_237001.out).2.1); (case side3 => repeat (first | exact (Kd.R_reads' HO_225001.out).2.2 | (with_reducible refine Kd.C_alloc ?_ _) | (with_reducible refine Kd.C_drewN ?_ _) | (with_reducible refine Kd.C_drew ?_))); (case side4 => exact (Kd.R_reads' HO_225001.out).2.1); rintro e w100 ⟨rfl, hb⟩; have n0_ := Aside0.mk (Kd.R_below (by (with_reducible repeat (first | apply Kd.R_alloc | apply Kd.R_drewN | apply Kd.R_drew)); exact HO_225001.out) hb); have n1_ := Aside0.mk (Kd.R_below (by (with_reducible repeat (first | apply Kd.R_alloc | apply Kd.R_drewN | apply Kd.R_drew)); exact HO_230001.out) hb); have n2_ := Aside0.mk (Kd.R_below (by (with_reducible repeat (first | apply Kd.R_alloc | apply Kd.R_drewN | apply Kd.R_drew)); exact HO_237001.out) hb); have n3_ := Aside0.mk (Kd.R_below (by (with_reducible repeat (first | apply Kd.R_alloc | apply Kd.R_drewN | apply Kd.R_drew)); exact HO241.out) hb); have n4_ := Aside0.mk (blk_below (g := gb212) (o := .cells #[.int .i16 a0_0, .slice A0_1 l0_1.length c0_1] 55 (0, 0)) (by (with_reducible repeat (first | refine blk_drewN ?_ _ | refine blk_drew ?_ | refine blk_alloc ?_ _)); exact BK212.out) hb); have n5_ := Aside0.mk (blk_below (g := gb224) (o := .cells #[.int .i16 t218, .slice Ao24 t219.length co24] 57 (0, 0)) (by (with_reducible repeat (first | refine blk_drewN ?_ _ | refine blk_drew ?_ | refine blk_alloc ?_ _)); exact BK224.out) hb); have n6_ := Aside0.mk (blk_below (g := gb229) (o := .cells #[.int .i16 t225, .slice Ao31 t226.length co31] 57 (0, 0)) (by (with_reducible repeat (first | refine blk_drewN ?_ _ | refine blk_drew ?_ | refine blk_alloc ?_ _)); exact BK229.out) hb); have n7_ := Aside0.mk (blk_below (g := gb236) (o := .cells #[.int .i16 t230, .slice Ao38 t231.length co38] 57 (0, 0)) (by (with_reducible repeat (first | refine blk_drewN ?_ _ | refine blk_drew ?_ | refine blk_alloc ?_ _)); exact BK236.out) hb); have n8_ := Aside0.mk (below_step (by repeat (first | (with_reducible first | exact HB.out | apply below_alloc | apply pw_below_drewN | apply below_drew1 | refine below_set ?_ GE212.out | refine below_set ?_ GE224.out | refine below_set ?_ GE229.out | refine below_set ?_ GE236.out) | exact HB.out)) hb); clear HO_225001; clear HO_230001; clear HO_237001; clear HO241; clear BK212; clear BK224; clear BK229; clear BK236; clear HB; have HO_225001 := n0_; have HO_230001 := n1_; have HO_237001 := n2_; have HO241 := n3_; have BK212 := n4_; have BK224 := n5_; have BK229 := n6_; have BK236 := n7_; have HB := n8_; clear n0_ n1_ n2_ n3_ n4_ n5_ n6_ n7_ n8_; (try clear hb); (try clear hb2); (try clear hk); (try clear hi)))
                    go_meet
                    case rel => exact ⟨_, (true), (by first | rfl | (simp; done) | (simp [*]; done)), H', ⟨by have := HJ12.out; first | omega | exact Nat.le_refl _⟩, ⟨by (with_reducible repeat (first | apply Kd.R_alloc | apply Kd.R_drewN | apply Kd.R_drew)); exact Kd.R_mono HO_225001.out (fun _ hk => ⟨hk.1, hk.2.1⟩)⟩, ⟨by (with_reducible repeat (first | apply Kd.R_alloc | apply Kd.R_drewN | apply Kd.R_drew)); exact Kd.R_mono HO_230001.out (fun _ hk => ⟨hk.1.1, hk.1.2⟩)⟩, ⟨by (with_reducible repeat (first | apply Kd.R_alloc | apply Kd.R_drewN | apply Kd.R_drew)); exact Kd.R_mono HO_237001.out (fun _ hk => ⟨hk.1, hk.2.1⟩)⟩, ⟨by (with_reducible repeat (first | refine blk_drewN ?_ _ | refine blk_drew ?_ | refine blk_alloc ?_ _)); exact BK212.out⟩, ⟨by (with_reducible repeat (first | refine blk_drewN ?_ _ | refine blk_drew ?_ | refine blk_alloc ?_ _)); exact BK224.out⟩, ⟨by (with_reducible repeat (first | refine blk_drewN ?_ _ | refine blk_drew ?_ | refine blk_alloc ?_ _)); exact BK229.out⟩, ⟨by (with_reducible repeat (first | refine blk_drewN ?_ _ | refine blk_drew ?_ | refine blk_alloc ?_ _)); exact BK236.out⟩, ⟨by repeat (first | (with_reducible first | exact HB.out | apply below_alloc | apply pw_below_drewN | apply below_drew1 | refine below_set ?_ GE212.out | refine below_set ?_ GE224.out | refine below_set ?_ GE229.out | refine below_set ?_ GE236.out) | exact HB.out)⟩⟩
                · replace c83 := Bool.eq_false_iff.mpr c83
                  subst c83
                  have H1 : (laws_FnExactFrogTo.j1 kj12 a1 a2 t222 t223 true a0_0 l0_1 t218 t219 t230 t231) = some r := by rw [if_neg (show ¬ (false = true) by decide)] at H; exact H
                  clear H
                  have H := H1
                  clear H1
                  have H' := Aside0.mk H
                  clear H
                  have hnb101 := NB236_212.out
                  have hnc101 := NB212_236.out
                  have hnb102 := NB236_224.out
                  have hnc102 := NB224_236.out
                  have hnb103 := NB236_229.out
                  have hnc103 := NB229_236.out
                  have hcz104_0 : w80.cell? ⟨gb236, 0, none⟩ = some (.int .i16 t230) := (blk_cell BK236.out 0).trans rfl
                  have hcz104_1 : w80.cell? ⟨gb236, 1, none⟩ = some (.slice Ao38 t231.length co38) := (blk_cell BK236.out 1).trans rfl
                  have hfz104_0 := blk_frozen BK236.out 0
                  have hfz104_1 := blk_frozen BK236.out 1
                  have hnb105 := NB224_212.out
                  have hnc105 := NB212_224.out
                  have hnb106 := NB224_229.out
                  have hnc106 := NB229_224.out
                  have hcz107_0 : w80.cell? ⟨gb224, 0, none⟩ = some (.int .i16 t218) := (blk_cell BK224.out 0).trans rfl
                  have hcz107_1 : w80.cell? ⟨gb224, 1, none⟩ = some (.slice Ao24 t219.length co24) := (blk_cell BK224.out 1).trans rfl
                  have hfz107_0 := blk_frozen BK224.out 0
                  have hfz107_1 := blk_frozen BK224.out 1
                  go_wp2_with (first | (go_at_call 36; (with_reducible refine (laws_eqFabric.calls kj12 t230 _ _ t231 t218 _ _ t219 false _ ?side1 ?side2 ?side3 ?side4 A82.out).mono ?_); (case side1 => repeat (first | exact (Kd.R_reads' HO_237001.out).2.2 | (with_reducible refine Kd.C_alloc ?_ _) | (with_reducible refine Kd.C_drewN ?_ _) | (with_reducible refine Kd.C_drew ?_))); (case side2 => exact (Kd.R_reads' HO_237001.out).2.1); (case side3 => repeat (first | exact (Kd.R_reads' HO_225001.out).2.2 | (with_reducible refine Kd.C_alloc ?_ _) | (with_reducible refine Kd.C_drewN ?_ _) | (with_reducible refine Kd.C_drew ?_))); (case side4 => exact (Kd.R_reads' HO_225001.out).2.1); rintro e w108 ⟨rfl, hb⟩; have n0_ := Aside0.mk (Kd.R_below (by (with_reducible repeat (first | apply Kd.R_alloc | apply Kd.R_drewN | apply Kd.R_drew)); exact HO_225001.out) hb); have n1_ := Aside0.mk (Kd.R_below (by (with_reducible repeat (first | apply Kd.R_alloc | apply Kd.R_drewN | apply Kd.R_drew)); exact HO_230001.out) hb); have n2_ := Aside0.mk (Kd.R_below (by (with_reducible repeat (first | apply Kd.R_alloc | apply Kd.R_drewN | apply Kd.R_drew)); exact HO_237001.out) hb); have n3_ := Aside0.mk (Kd.R_below (by (with_reducible repeat (first | apply Kd.R_alloc | apply Kd.R_drewN | apply Kd.R_drew)); exact HO241.out) hb); have n4_ := Aside0.mk (blk_below (g := gb212) (o := .cells #[.int .i16 a0_0, .slice A0_1 l0_1.length c0_1] 55 (0, 0)) (by (with_reducible repeat (first | refine blk_drewN ?_ _ | refine blk_drew ?_ | refine blk_alloc ?_ _)); exact BK212.out) hb); have n5_ := Aside0.mk (blk_below (g := gb224) (o := .cells #[.int .i16 t218, .slice Ao24 t219.length co24] 57 (0, 0)) (by (with_reducible repeat (first | refine blk_drewN ?_ _ | refine blk_drew ?_ | refine blk_alloc ?_ _)); exact BK224.out) hb); have n6_ := Aside0.mk (blk_below (g := gb229) (o := .cells #[.int .i16 t225, .slice Ao31 t226.length co31] 57 (0, 0)) (by (with_reducible repeat (first | refine blk_drewN ?_ _ | refine blk_drew ?_ | refine blk_alloc ?_ _)); exact BK229.out) hb); have n7_ := Aside0.mk (blk_below (g := gb236) (o := .cells #[.int .i16 t230, .slice Ao38 t231.length co38] 57 (0, 0)) (by (with_reducible repeat (first | refine blk_drewN ?_ _ | refine blk_drew ?_ | refine blk_alloc ?_ _)); exact BK236.out) hb); have n8_ := Aside0.mk (below_step (by repeat (first | (with_reducible first | exact HB.out | apply below_alloc | apply pw_below_drewN | apply below_drew1 | refine below_set ?_ GE212.out | refine below_set ?_ GE224.out | refine below_set ?_ GE229.out | refine below_set ?_ GE236.out) | exact HB.out)) hb); clear HO_225001; clear HO_230001; clear HO_237001; clear HO241; clear BK212; clear BK224; clear BK229; clear BK236; clear HB; have HO_225001 := n0_; have HO_230001 := n1_; have HO_237001 := n2_; have HO241 := n3_; have BK212 := n4_; have BK224 := n5_; have BK229 := n6_; have BK236 := n7_; have HB := n8_; clear n0_ n1_ n2_ n3_ n4_ n5_ n6_ n7_ n8_; (try clear hb); (try clear hb2); (try clear hk); (try clear hi)))
                  go_meet
                  case rel => exact ⟨_, (true), (by first | rfl | (simp; done) | (simp [*]; done)), H', ⟨by have := HJ12.out; first | omega | exact Nat.le_refl _⟩, ⟨by (with_reducible repeat (first | apply Kd.R_alloc | apply Kd.R_drewN | apply Kd.R_drew)); exact Kd.R_mono HO_225001.out (fun _ hk => ⟨hk.1, hk.2.1⟩)⟩, ⟨by (with_reducible repeat (first | apply Kd.R_alloc | apply Kd.R_drewN | apply Kd.R_drew)); exact Kd.R_mono HO_230001.out (fun _ hk => ⟨hk.1.1, hk.1.2⟩)⟩, ⟨by (with_reducible repeat (first | apply Kd.R_alloc | apply Kd.R_drewN | apply Kd.R_drew)); exact Kd.R_mono HO_237001.out (fun _ hk => ⟨hk.1, hk.2.1⟩)⟩, ⟨by (with_reducible repeat (first | refine blk_drewN ?_ _ | refine blk_drew ?_ | refine blk_alloc ?_ _)); exact BK212.out⟩, ⟨by (with_reducible repeat (first | refine blk_drewN ?_ _ | refine blk_drew ?_ | refine blk_alloc ?_ _)); exact BK224.out⟩, ⟨by (with_reducible repeat (first | refine blk_drewN ?_ _ | refine blk_drew ?_ | refine blk_alloc ?_ _)); exact BK229.out⟩, ⟨by (with_reducible repeat (first | refine blk_drewN ?_ _ | refine blk_drew ?_ | refine blk_alloc ?_ _)); exact BK236.out⟩, ⟨by repeat (first | (with_reducible first | exact HB.out | apply below_alloc | apply pw_below_drewN | apply below_drew1 | refine below_set ?_ GE212.out | refine below_set ?_ GE224.out | refine below_set ?_ GE229.out | refine below_set ?_ GE236.out) | exact HB.out)⟩⟩
            case rest =>
              as_aux_lemma =>
              clear HC71
              try clear c1
              try clear c2
              try clear p2
              try clear c3
              try clear c4
              try clear c5
              try clear c5b0
              try clear c6
              try clear c7
              try clear c8
              try clear c9
              try clear c10
              try clear c11
              try clear c22
              try clear c28
              try clear c29
              try clear c32
              try clear c34
              try clear c35
              try clear c36
              try clear c37
              try clear c40
              try clear c41
              try clear c41b0
              try clear c41b1
              try clear c42
              try clear c43
              try clear c44
              try clear c46
              try clear c47
              try clear c50
              try clear c51
              try clear c52
              try clear c54
              try clear c55
              try clear c58
              try clear c59
              try clear c60
              try clear c62
              try clear c63
              try clear c66
              try clear c69
              try clear c76
              try clear c77
              try clear c78
              try clear c81
              try clear c81b0
              try clear c83
              try clear c84
              try clear c84b0
              try clear c84b1
              try clear c85
              try clear c86
              try clear c87
              try clear c89
              try clear c90
              try clear c93
              try clear c94
              try clear c95
              try clear c97
              try clear c98
              try clear c101
              try clear c102
              try clear c103
              try clear c105
              try clear c106
              try clear hcz104_0
              try clear hcz104_1
              try clear hcz107_0
              try clear hcz107_1
              try clear hcz15_0
              try clear hcz15_1
              try clear hcz17_0
              try clear hcz17_1
              try clear hcz23_0
              try clear hcz23_1
              try clear hcz25_0
              try clear hcz25_1
              try clear hcz30_0
              try clear hcz30_1
              try clear hcz37_0
              try clear hcz37_1
              try clear hcz45_0
              try clear hcz45_1
              try clear hcz48_0
              try clear hcz48_1
              try clear hcz53_0
              try clear hcz53_1
              try clear hcz56_0
              try clear hcz56_1
              try clear hcz61_0
              try clear hcz61_1
              try clear hcz64_0
              try clear hcz64_1
              try clear hcz79_0
              try clear hcz79_1
              try clear hcz7_0
              try clear hcz7_1
              try clear hcz88_0
              try clear hcz88_1
              try clear hcz91_0
              try clear hcz91_1
              try clear hcz96_0
              try clear hcz96_1
              try clear hcz99_0
              try clear hcz99_1
              try clear hfz104_0
              try clear hfz104_1
              try clear hfz107_0
              try clear hfz107_1
              try clear hfz15_0
              try clear hfz15_1
              try clear hfz17_0
              try clear hfz17_1
              try clear hfz23_0
              try clear hfz23_1
              try clear hfz25_0
              try clear hfz25_1
              try clear hfz30_0
              try clear hfz30_1
              try clear hfz37_0
              try clear hfz37_1
              try clear hfz45_0
              try clear hfz45_1
              try clear hfz48_0
              try clear hfz48_1
              try clear hfz53_0
              try clear hfz53_1
              try clear hfz56_0
              try clear hfz56_1
              try clear hfz61_0
              try clear hfz61_1
              try clear hfz64_0
              try clear hfz64_1
              try clear hfz79_0
              try clear hfz79_1
              try clear hfz7_0
              try clear hfz7_1
              try clear hfz88_0
              try clear hfz88_1
              try clear hfz91_0
              try clear hfz91_1
              try clear hfz96_0
              try clear hfz96_1
              try clear hfz99_0
              try clear hfz99_1
              try clear p2
              obtain ⟨kq, x84_70, rfl, HA, HJ70, HO_225001, HO_230001, HO_237001, BK212, BK224, BK229, BK236, HB⟩ := hcut
              have hl230001_70 := (Kd.R_reads' HO_230001.out).1
              rw [hl230001_70] at HO_230001
              (try simp only [hl230001_70])
              (try simp only [hl230001_70] at BK212)
              (try simp only [hl230001_70] at BK224)
              (try simp only [hl230001_70] at BK229)
              (try simp only [hl230001_70] at BK236)
              (try simp only [hl230001_70] at HO_225001)
              (try simp only [hl230001_70] at HO_237001)
              cases kq with
              | zero => exact absurd HA.out (by simp [laws_FnExactFrogTo.j1])
              | succ kj70 =>
                have H := HA.out
                clear HA
                simp only [laws_FnExactFrogTo.j1] at H
                by_cases c109 : x84_70 = true
                · subst c109
                  have H1 : (none) = some r := by rw [if_pos rfl] at H; exact H
                  clear H
                  have H := H1
                  clear H1
                  exact absurd H (by simp)
                · replace c109 := Bool.eq_false_iff.mpr c109
                  subst c109
                  have H1 : ((laws_markFabric.f kj70 t230 t231 1).bind fun bt246 => ((laws_heldFabric.f kj70 t230 bt246.2 1).bind fun t248 => (if t248 < 0 then (none) else (if t248 = bt246.1 then ((laws_toFabric.f kj70 a0_0 l0_1).bind fun bt249 => ((impl_FrogTo.f kj70 bt249.1 bt249.2 a1 a2).bind fun bt253 => ((laws_eqFabric.f kj70 bt253.1 bt253.2.1 t218 t219).bind fun t260 => (if t260 = true then (if bt253.2.2.1 = t222 then (laws_FnExactFrogTo.j2 kj70 bt246.1 (bt253.2.2.2 != t223) t230 bt246.2) else (laws_FnExactFrogTo.j2 kj70 bt246.1 true t230 bt246.2)) else (laws_FnExactFrogTo.j2 kj70 bt246.1 true t230 bt246.2))))) else (none))))) = some r := by rw [if_neg (show ¬ (false = true) by decide)] at H; exact H
                  clear H
                  have H := H1
                  clear H1
                  replace H := Option.bind_eq_some_iff.mp H
                  obtain ⟨⟨t246, t247⟩, A1100, H⟩ := H
                  replace H : ((laws_heldFabric.f kj70 t230 t247 1).bind fun t248 => (if t248 < 0 then (none) else (if t248 = t246 then ((laws_toFabric.f kj70 a0_0 l0_1).bind fun bt249 => ((impl_FrogTo.f kj70 bt249.1 bt249.2 a1 a2).bind fun bt253 => ((laws_eqFabric.f kj70 bt253.1 bt253.2.1 t218 t219).bind fun t260 => (if t260 = true then (if bt253.2.2.1 = t222 then (laws_FnExactFrogTo.j2 kj70 t246 (bt253.2.2.2 != t223) t230 t247) else (laws_FnExactFrogTo.j2 kj70 t246 true t230 t247)) else (laws_FnExactFrogTo.j2 kj70 t246 true t230 t247))))) else (none)))) = some r := H
                  have A110 := Aside0.mk A1100
                  clear A1100
                  replace H := Option.bind_eq_some_iff.mp H
                  obtain ⟨t248, A1110, H⟩ := H
                  replace H : (if t248 < 0 then (none) else (if t248 = t246 then ((laws_toFabric.f kj70 a0_0 l0_1).bind fun bt249 => ((impl_FrogTo.f kj70 bt249.1 bt249.2 a1 a2).bind fun bt253 => ((laws_eqFabric.f kj70 bt253.1 bt253.2.1 t218 t219).bind fun t260 => (if t260 = true then (if bt253.2.2.1 = t222 then (laws_FnExactFrogTo.j2 kj70 t246 (bt253.2.2.2 != t223) t230 t247) else (laws_FnExactFrogTo.j2 kj70 t246 true t230 t247)) else (laws_FnExactFrogTo.j2 kj70 t246 true t230 t247))))) else (none))) = some r := H
                  have A111 := Aside0.mk A1110
                  clear A1110
                  by_cases c112 : t248 < 0
                  · rw [if_pos c112] at H
                    exact absurd H (by simp)
                  · rw [if_neg c112] at H
                    have c112b0 : decide (t248 < 0) = false := decide_eq_false c112
                    clear c112
                    by_cases c113 : t248 = t246
                    · rw [if_pos c113] at H
                      have c113b0 : (t248 == t246) = true := beq_iff_eq.mpr c113
                      have c113b1 : (t248 != t246) = false := bne_eq_false_iff_eq.mpr c113
                      clear c113
                      replace H := Option.bind_eq_some_iff.mp H
                      obtain ⟨⟨t249, t250⟩, A1140, H⟩ := H
                      replace H : ((impl_FrogTo.f kj70 t249 t250 a1 a2).bind fun bt253 => ((laws_eqFabric.f kj70 bt253.1 bt253.2.1 t218 t219).bind fun t260 => (if t260 = true then (if bt253.2.2.1 = t222 then (laws_FnExactFrogTo.j2 kj70 t246 (bt253.2.2.2 != t223) t230 t247) else (laws_FnExactFrogTo.j2 kj70 t246 true t230 t247)) else (laws_FnExactFrogTo.j2 kj70 t246 true t230 t247)))) = some r := H
                      have A114 := Aside0.mk A1140
                      clear A1140
                      replace H := Option.bind_eq_some_iff.mp H
                      obtain ⟨⟨t253, t254, t257, t258⟩, A1150, H⟩ := H
                      replace H : ((laws_eqFabric.f kj70 t253 t254 t218 t219).bind fun t260 => (if t260 = true then (if t257 = t222 then (laws_FnExactFrogTo.j2 kj70 t246 (t258 != t223) t230 t247) else (laws_FnExactFrogTo.j2 kj70 t246 true t230 t247)) else (laws_FnExactFrogTo.j2 kj70 t246 true t230 t247))) = some r := H
                      have A115 := Aside0.mk A1150
                      clear A1150
                      have HC116 := Aside0.mk H
                      clear H
                      have hnb117 := NB236_212.out
                      have hnc117 := NB212_236.out
                      have hnb118 := NB236_224.out
                      have hnc118 := NB224_236.out
                      have hnb119 := NB236_229.out
                      have hnc119 := NB229_236.out
                      have hcz120_0 : wc.cell? ⟨gb236, 0, none⟩ = some (.int .i16 t230) := (blk_cell BK236.out 0).trans rfl
                      have hcz120_1 : wc.cell? ⟨gb236, 1, none⟩ = some (.slice Ao38 t231.length co38) := (blk_cell BK236.out 1).trans rfl
                      have hfz120_0 := blk_frozen BK236.out 0
                      have hfz120_1 := blk_frozen BK236.out 1
                      go_upto_region 25 with (first | ((with_reducible refine gate_callee (f := 37) rfl ?_); refine goesL_ (some 87) rfl rfl Try.func37 (by kernel_rfl) rfl #[.agg #[.int .i16 t230, .slice Ao38 t231.length co38], .int .i64 1] rfl (by (try simp only [List.map_toArray, List.map_cons, List.map_nil]); first | done | rfl | (simp only [List.length_drop, List.length_take]; rfl)) ?_; (with_reducible refine (laws_markFabric.calls kj70 t230 (fun k_ => some k_ = (.slice Ao38 t231.length co38 : Value).ownBlock) (.slice Ao38 t231.length co38) t231 1 t246 t247 w _ ?side1 ?side2 A110.out).mono ?_); (case side1 => repeat (first | (with_reducible first | exact HB.out | apply below_alloc | apply pw_below_drewN | apply below_drew1 | refine below_set ?_ GE212.out | refine below_set ?_ GE224.out | refine below_set ?_ GE229.out | refine below_set ?_ GE236.out) | exact HB.out)); (case side2 => exact Kd.R_tight rfl HO_237001.out); rintro e w121 ⟨rfl, hy0, hb, hkp⟩; refine ⟨_, rfl, ?_⟩; have n0_ := Aside0.mk (Kd.R_mono (ok' := fun k_ => some k_ ≠ (.slice Ao31 t244.length co31 : Value).ownBlock ∧ some k_ ≠ (.slice Ao38 t231.length co38 : Value).ownBlock) (Kd.R_keptB (HO_225001.out) hkp (fun k_ hk_ hs_ => (hk_.2) hs_)) (fun k_ hk_ => ⟨hk_.1.1, hk_.1.2⟩)); have n1_ := Aside0.mk (Kd.R_mono (ok' := fun k_ => some k_ ≠ (.slice Ao24 t219.length co24 : Value).ownBlock ∧ some k_ ≠ (.slice Ao38 t231.length co38 : Value).ownBlock) (Kd.R_keptB (HO_230001.out) hkp (fun k_ hk_ hs_ => (hk_.2) hs_)) (fun k_ hk_ => ⟨hk_.1.1, hk_.1.2⟩)); have n2_ := Aside0.mk (Kd.R_reok rfl hy0 (fun k_ e_ => HO_237001.out.1 k_ e_)); have n3_ := Aside0.mk (blk_kept (by (with_reducible repeat (first | refine blk_drewN ?_ _ | refine blk_drew ?_ | refine blk_alloc ?_ _)); exact BK212.out) hkp (fun hs_ => (fun e_ => (Kd.R_ne HO_237001.out BK212.out (by decide)) e_) hs_)); have n4_ := Aside0.mk (blk_kept (by (with_reducible repeat (first | refine blk_drewN ?_ _ | refine blk_drew ?_ | refine blk_alloc ?_ _)); exact BK224.out) hkp (fun hs_ => (fun e_ => (Kd.R_ne HO_237001.out BK224.out (by decide)) e_) hs_)); have n5_ := Aside0.mk (blk_kept (by (with_reducible repeat (first | refine blk_drewN ?_ _ | refine blk_drew ?_ | refine blk_alloc ?_ _)); exact BK229.out) hkp (fun hs_ => (fun e_ => (Kd.R_ne HO_237001.out BK229.out (by decide)) e_) hs_)); have n6_ := Aside0.mk (blk_kept (by (with_reducible repeat (first | refine blk_drewN ?_ _ | refine blk_drew ?_ | refine blk_alloc ?_ _)); exact BK236.out) hkp (fun hs_ => (fun e_ => (Kd.R_ne HO_237001.out BK236.out (by decide)) e_) hs_)); have n7_ := Aside0.mk (hb); clear HO_225001; clear HO_230001; clear HO_237001; clear BK212; clear BK224; clear BK229; clear BK236; clear HB; have HO_225001 := n0_; have HO_230001 := n1_; have HO_237001 := n2_; have BK212 := n3_; have BK224 := n4_; have BK229 := n5_; have BK236 := n6_; have HB := n7_; clear n0_ n1_ n2_ n3_ n4_ n5_ n6_ n7_; (try clear hb); (try clear hkp); (try clear hy0); have hcz122_0 : w121.cell? ⟨gb236, 0, none⟩ = some (.int .i16 t230) := (blk_cell BK236.out 0).trans rfl; have hcz122_1 : w121.cell? ⟨gb236, 1, none⟩ = some (.slice Ao38 t231.length co38) := (blk_cell BK236.out 1).trans rfl; have hfz122_0 := blk_frozen BK236.out 0; have hfz122_1 := blk_frozen BK236.out 1) | ((with_reducible refine gate_callee (f := 38) rfl ?_); refine goesL_ (some 90) rfl rfl Try.func38 (by kernel_rfl) rfl #[.agg #[.int .i16 t230, .slice Ao38 t247.length co38], .int .i64 1] rfl (by (try simp only [List.map_toArray, List.map_cons, List.map_nil]); first | done | (rw [show t247.length = t231.length from (Kd.R_reads' HO_237001.out).1.symm] <;> rfl) | rfl | (simp only [List.length_drop, List.length_take]; rfl)) ?_; (with_reducible refine (laws_heldFabric.calls kj70 t230 _ _ t247 1 t248 _ ?side1 ?side2 A111.out).mono ?_); (case side1 => repeat (first | exact (Kd.R_reads' HO_237001.out).2.2 | (with_reducible refine Kd.C_alloc ?_ _) | (with_reducible refine Kd.C_drewN ?_ _) | (with_reducible refine Kd.C_drew ?_))); (case side2 => rw [show t247.length = t231.length from (Kd.R_reads' HO_237001.out).1.symm]; exact (Kd.R_reads' HO_237001.out).2.1); rintro e w123 ⟨rfl, hb⟩; refine ⟨_, rfl, ?_⟩; have n0_ := Aside0.mk (Kd.R_below (by (with_reducible repeat (first | apply Kd.R_alloc | apply Kd.R_drewN | apply Kd.R_drew)); exact HO_225001.out) hb); have n1_ := Aside0.mk (Kd.R_below (by (with_reducible repeat (first | apply Kd.R_alloc | apply Kd.R_drewN | apply Kd.R_drew)); exact HO_230001.out) hb); have n2_ := Aside0.mk (Kd.R_below (by (with_reducible repeat (first | apply Kd.R_alloc | apply Kd.R_drewN | apply Kd.R_drew)); exact HO_237001.out) hb); have n3_ := Aside0.mk (blk_below (g := gb212) (o := .cells #[.int .i16 a0_0, .slice A0_1 l0_1.length c0_1] 55 (0, 0)) (by (with_reducible repeat (first | refine blk_drewN ?_ _ | refine blk_drew ?_ | refine blk_alloc ?_ _)); exact BK212.out) hb); have n4_ := Aside0.mk (blk_below (g := gb224) (o := .cells #[.int .i16 t218, .slice Ao24 t219.length co24] 57 (0, 0)) (by (with_reducible repeat (first | refine blk_drewN ?_ _ | refine blk_drew ?_ | refine blk_alloc ?_ _)); exact BK224.out) hb); have n5_ := Aside0.mk (blk_below (g := gb229) (o := .cells #[.int .i16 t225, .slice Ao31 t244.length co31] 57 (0, 0)) (by (with_reducible repeat (first | refine blk_drewN ?_ _ | refine blk_drew ?_ | refine blk_alloc ?_ _)); exact BK229.out) hb); have n6_ := Aside0.mk (blk_below (g := gb236) (o := .cells #[.int .i16 t230, .slice Ao38 t231.length co38] 57 (0, 0)) (by (with_reducible repeat (first | refine blk_drewN ?_ _ | refine blk_drew ?_ | refine blk_alloc ?_ _)); exact BK236.out) hb); have n7_ := Aside0.mk (below_step (by repeat (first | (with_reducible first | exact HB.out | apply below_alloc | apply pw_below_drewN | apply below_drew1 | refine below_set ?_ GE212.out | refine below_set ?_ GE224.out | refine below_set ?_ GE229.out | refine below_set ?_ GE236.out) | exact HB.out)) hb); clear HO_225001; clear HO_230001; clear HO_237001; clear BK212; clear BK224; clear BK229; clear BK236; clear HB; have HO_225001 := n0_; have HO_230001 := n1_; have HO_237001 := n2_; have BK212 := n3_; have BK224 := n4_; have BK229 := n5_; have BK236 := n6_; have HB := n7_; clear n0_ n1_ n2_ n3_ n4_ n5_ n6_ n7_; (try clear hb); (try clear hb2); (try clear hk); (try clear hi); have hnb124 := NB212_224.out; have hnc124 := NB224_212.out; have hnb125 := NB212_229.out; have hnc125 := NB229_212.out; have hcz126_0 : w123.cell? ⟨gb212, 0, none⟩ = some (.int .i16 a0_0) := (blk_cell BK212.out 0).trans rfl; have hcz126_1 : w123.cell? ⟨gb212, 1, none⟩ = some (.slice A0_1 l0_1.length c0_1) := (blk_cell BK212.out 1).trans rfl; have hfz126_0 := blk_frozen BK212.out 0; have hfz126_1 := blk_frozen BK212.out 1) | ((with_reducible refine gate_callee (f := 34) rfl ?_); refine goesL_ (some 98) rfl rfl Try.func34 (by kernel_rfl) rfl #[.agg #[.int .i16 a0_0, .slice A0_1 l0_1.length c0_1]] rfl (by (try simp only [List.map_toArray, List.map_cons, List.map_nil]); first | done | rfl | (simp only [List.length_drop, List.length_take]; rfl)) ?_; (with_reducible refine (laws_toFabric.calls kj70 a0_0 _ _ l0_1 t249 t250 _ ?side1 ?side2 A114.out).mono ?_); (case side1 => repeat (first | exact (Kd.C_below HR0_1.out HB.out) | (with_reducible refine Kd.C_alloc ?_ _) | (with_reducible refine Kd.C_drewN ?_ _) | (with_reducible refine Kd.C_drew ?_))); (case side2 => exact HC0_1.out); rintro e w127 ⟨v251, rfl, ho0, hb⟩; refine ⟨_, rfl, ?_⟩; have n0_ := Aside0.mk (Kd.R_elder' (by (with_reducible repeat (first | apply Kd.R_alloc | apply Kd.R_drewN | apply Kd.R_drew)); exact HO_225001.out) (Kd.R_base ho0) hb); have n1_ := Aside0.mk (Kd.R_elder' (by (with_reducible repeat (first | apply Kd.R_alloc | apply Kd.R_drewN | apply Kd.R_drew)); exact HO_230001.out) (Kd.R_base ho0) hb); have n2_ := Aside0.mk (Kd.R_elder' (by (with_reducible repeat (first | apply Kd.R_alloc | apply Kd.R_drewN | apply Kd.R_drew)); exact HO_237001.out) (Kd.R_base ho0) hb); have n3_ := Aside0.mk (Kd.R_lower (Kd.R_new' (Kd.R_new' (Kd.R_new' ho0 (Kd.R_lt (by (with_reducible repeat (first | apply Kd.R_alloc | apply Kd.R_drewN | apply Kd.R_drew)); exact HO_225001.out))) (Kd.R_lt (by (with_reducible repeat (first | apply Kd.R_alloc | apply Kd.R_drewN | apply Kd.R_drew)); exact HO_230001.out))) (Kd.R_lt (by (with_reducible repeat (first | apply Kd.R_alloc | apply Kd.R_drewN | apply Kd.R_drew)); exact HO_237001.out))) (below_size (by repeat (first | (with_reducible first | exact HB.out | apply below_alloc | apply pw_below_drewN | apply below_drew1 | refine below_set ?_ GE212.out | refine below_set ?_ GE224.out | refine below_set ?_ GE229.out | refine below_set ?_ GE236.out) | exact HB.out)))); have n4_ := Aside0.mk (blk_below (g := gb212) (o := .cells #[.int .i16 a0_0, .slice A0_1 l0_1.length c0_1] 55 (0, 0)) (by (with_reducible repeat (first | refine blk_drewN ?_ _ | refine blk_drew ?_ | refine blk_alloc ?_ _)); exact BK212.out) hb); have n5_ := Aside0.mk (blk_below (g := gb224) (o := .cells #[.int .i16 t218, .slice Ao24 t219.length co24] 57 (0, 0)) (by (with_reducible repeat (first | refine blk_drewN ?_ _ | refine blk_drew ?_ | refine blk_alloc ?_ _)); exact BK224.out) hb); have n6_ := Aside0.mk (blk_below (g := gb229) (o := .cells #[.int .i16 t225, .slice Ao31 t244.length co31] 57 (0, 0)) (by (with_reducible repeat (first | refine blk_drewN ?_ _ | refine blk_drew ?_ | refine blk_alloc ?_ _)); exact BK229.out) hb); have n7_ := Aside0.mk (blk_below (g := gb236) (o := .cells #[.int .i16 t230, .slice Ao38 t231.length co38] 57 (0, 0)) (by (with_reducible repeat (first | refine blk_drewN ?_ _ | refine blk_drew ?_ | refine blk_alloc ?_ _)); exact BK236.out) hb); have n8_ := Aside0.mk (below_step (by repeat (first | (with_reducible first | exact HB.out | apply below_alloc | apply pw_below_drewN | apply below_drew1 | refine below_set ?_ GE212.out | refine below_set ?_ GE224.out | refine below_set ?_ GE229.out | refine below_set ?_ GE236.out) | exact HB.out)) hb); clear HO_225001; clear HO_230001; clear HO_237001; clear BK212; clear BK224; clear BK229; clear BK236; clear HB; have HO_225001 := n0_; have HO_230001 := n1_; have HO_237001 := n2_; have HO252 := n3_; have BK212 := n4_; have BK224 := n5_; have BK229 := n6_; have BK236 := n7_; have HB := n8_; clear n0_ n1_ n2_ n3_ n4_ n5_ n6_ n7_ n8_; (try clear hb); (try clear hb2); (try clear hk); (try clear hi); (try clear ho0); obtain ⟨Ao128, co128, eo128⟩ := Kd.R_slice HO252.out; subst eo128) | ((with_reducible refine gate_callee (f := 51) rfl ?_); refine goesL_ (some 101) rfl rfl Try.func51 (by kernel_rfl) rfl #[.agg #[.int .i16 t249, .slice Ao128 t250.length co128], .int .i64 a1, .int .i64 a2] rfl (by (try simp only [List.map_toArray, List.map_cons, List.map_nil]); first | done | rfl | (simp only [List.length_drop, List.length_take]; rfl)) ?_; (with_reducible refine (impl_FrogTo.calls kj70 t249 _ _ t250 a1 a2 t253 t254 t257 t258 _ ?side1 ?side2 A115.out).mono ?_); (case side1 => repeat (first | exact (Kd.R_reads' HO252.out).2.2 | (with_reducible refine Kd.C_alloc ?_ _) | (with_reducible refine Kd.C_drewN ?_ _) | (with_reducible refine Kd.C_drew ?_))); (case side2 => exact (Kd.R_reads' HO252.out).2.1); rintro e w129 ⟨v255, rfl, ho0, hb⟩; refine ⟨_, rfl, ?_⟩; have n0_ := Aside0.mk (Kd.R_elder' (by (with_reducible repeat (first | apply Kd.R_alloc | apply Kd.R_drewN | apply Kd.R_drew)); exact HO_225001.out) (Kd.R_base ho0) hb); have n1_ := Aside0.mk (Kd.R_elder' (by (with_reducible repeat (first | apply Kd.R_alloc | apply Kd.R_drewN | apply Kd.R_drew)); exact HO_230001.out) (Kd.R_base ho0) hb); have n2_ := Aside0.mk (Kd.R_elder' (by (with_reducible repeat (first | apply Kd.R_alloc | apply Kd.R_drewN | apply Kd.R_drew)); exact HO_237001.out) (Kd.R_base ho0) hb); have n3_ := Aside0.mk (Kd.R_elder' (by (with_reducible repeat (first | apply Kd.R_alloc | apply Kd.R_drewN | apply Kd.R_drew)); exact HO252.out) (Kd.R_base ho0) hb); have n4_ := Aside0.mk (Kd.R_lower (Kd.R_new' (Kd.R_new' (Kd.R_new' (Kd.R_new' ho0 (Kd.R_lt (by (with_reducible repeat (first | apply Kd.R_alloc | apply Kd.R_drewN | apply Kd.R_drew)); exact HO_225001.out))) (Kd.R_lt (by (with_reducible repeat (first | apply Kd.R_alloc | apply Kd.R_drewN | apply Kd.R_drew)); exact HO_230001.out))) (Kd.R_lt (by (with_reducible repeat (first | apply Kd.R_alloc | apply Kd.R_drewN | apply Kd.R_drew)); exact HO_237001.out))) (Kd.R_lt (by (with_reducible repeat (first | apply Kd.R_alloc | apply Kd.R_drewN | apply Kd.R_drew)); exact HO252.out))) (below_size (by repeat (first | (with_reducible first | exact HB.out | apply below_alloc | apply pw_below_drewN | apply below_drew1 | refine below_set ?_ GE212.out | refine below_set ?_ GE224.out | refine below_set ?_ GE229.out | refine below_set ?_ GE236.out) | exact HB.out)))); have n5_ := Aside0.mk (blk_below (g := gb212) (o := .cells #[.int .i16 a0_0, .slice A0_1 l0_1.length c0_1] 55 (0, 0)) (by (with_reducible repeat (first | refine blk_drewN ?_ _ | refine blk_drew ?_ | refine blk_alloc ?_ _)); exact BK212.out) hb); have n6_ := Aside0.mk (blk_below (g := gb224) (o := .cells #[.int .i16 t218, .slice Ao24 t219.length co24] 57 (0, 0)) (by (with_reducible repeat (first | refine blk_drewN ?_ _ | refine blk_drew ?_ | refine blk_alloc ?_ _)); exact BK224.out) hb); have n7_ := Aside0.mk (blk_below (g := gb229) (o := .cells #[.int .i16 t225, .slice Ao31 t244.length co31] 57 (0, 0)) (by (with_reducible repeat (first | refine blk_drewN ?_ _ | refine blk_drew ?_ | refine blk_alloc ?_ _)); exact BK229.out) hb); have n8_ := Aside0.mk (blk_below (g := gb236) (o := .cells #[.int .i16 t230, .slice Ao38 t231.length co38] 57 (0, 0)) (by (with_reducible repeat (first | refine blk_drewN ?_ _ | refine blk_drew ?_ | refine blk_alloc ?_ _)); exact BK236.out) hb); have n9_ := Aside0.mk (below_step (by repeat (first | (with_reducible first | exact HB.out | apply below_alloc | apply pw_below_drewN | apply below_drew1 | refine below_set ?_ GE212.out | refine below_set ?_ GE224.out | refine below_set ?_ GE229.out | refine below_set ?_ GE236.out) | exact HB.out)) hb); clear HO_225001; clear HO_230001; clear HO_237001; clear HO252; clear BK212; clear BK224; clear BK229; clear BK236; clear HB; have HO_225001 := n0_; have HO_230001 := n1_; have HO_237001 := n2_; have HO252 := n3_; have HO256 := n4_; have BK212 := n5_; have BK224 := n6_; have BK229 := n7_; have BK236 := n8_; have HB := n9_; clear n0_ n1_ n2_ n3_ n4_ n5_ n6_ n7_ n8_ n9_; (try clear hb); (try clear hb2); (try clear hk); (try clear hi); (try clear ho0)) | ((with_reducible refine gate_dst (N := 18) rfl ?_); refine box_event ?hg (N := 18) ?hd (cs := #[.int .i16 0, .slice none 0 0]) (t := 57) ?hr ?_; (case hd => rfl); (case hg => rfl); (case hr => first | (go_simp; done) | (go_simp; rfl)); intro gb259 hg w130 hbox hb; have n0_ := Aside0.mk (Kd.R_below (by (with_reducible repeat (first | apply Kd.R_alloc | apply Kd.R_drewN | apply Kd.R_drew)); exact HO_225001.out) hb); have n1_ := Aside0.mk (Kd.R_below (by (with_reducible repeat (first | apply Kd.R_alloc | apply Kd.R_drewN | apply Kd.R_drew)); exact HO_230001.out) hb); have n2_ := Aside0.mk (Kd.R_below (by (with_reducible repeat (first | apply Kd.R_alloc | apply Kd.R_drewN | apply Kd.R_drew)); exact HO_237001.out) hb); have n3_ := Aside0.mk (Kd.R_below (by (with_reducible repeat (first | apply Kd.R_alloc | apply Kd.R_drewN | apply Kd.R_drew)); exact HO252.out) hb); have n4_ := Aside0.mk (Kd.R_below (by (with_reducible repeat (first | apply Kd.R_alloc | apply Kd.R_drewN | apply Kd.R_drew)); exact HO256.out) hb); have n5_ := Aside0.mk (blk_below (g := gb212) (o := .cells #[.int .i16 a0_0, .slice A0_1 l0_1.length c0_1] 55 (0, 0)) (by (with_reducible repeat (first | refine blk_drewN ?_ _ | refine blk_drew ?_ | refine blk_alloc ?_ _)); exact BK212.out) hb); have n6_ := Aside0.mk (blk_below (g := gb224) (o := .cells #[.int .i16 t218, .slice Ao24 t219.length co24] 57 (0, 0)) (by (with_reducible repeat (first | refine blk_drewN ?_ _ | refine blk_drew ?_ | refine blk_alloc ?_ _)); exact BK224.out) hb); have n7_ := Aside0.mk (blk_below (g := gb229) (o := .cells #[.int .i16 t225, .slice Ao31 t244.length co31] 57 (0, 0)) (by (with_reducible repeat (first | refine blk_drewN ?_ _ | refine blk_drew ?_ | refine blk_alloc ?_ _)); exact BK229.out) hb); have n8_ := Aside0.mk (blk_below (g := gb236) (o := .cells #[.int .i16 t230, .slice Ao38 t231.length co38] 57 (0, 0)) (by (with_reducible repeat (first | refine blk_drewN ?_ _ | refine blk_drew ?_ | refine blk_alloc ?_ _)); exact BK236.out) hb); have n9_ := Aside0.mk (below_step (by repeat (first | (with_reducible first | exact HB.out | apply below_alloc | apply pw_below_drewN | apply below_drew1 | refine below_set ?_ GE212.out | refine below_set ?_ GE224.out | refine below_set ?_ GE229.out | refine below_set ?_ GE236.out) | exact HB.out)) hb); have n10_ := Aside0.mk (hbox); have n11_ := Aside0.mk ((by rw [hg]; exact (below_size (by repeat (first | (with_reducible first | exact HB.out | apply below_alloc | apply pw_below_drewN | apply below_drew1 | refine below_set ?_ GE212.out | refine below_set ?_ GE224.out | refine below_set ?_ GE229.out | refine below_set ?_ GE236.out) | exact HB.out))) : w.heap.size ≤ gb259)); have n12_ := Aside0.mk ((by rw [hg]; exact (below_size (by repeat (first | (with_reducible first | exact HB.out | apply below_alloc | apply pw_below_drewN | apply below_drew1 | refine below_set ?_ GE212.out | refine below_set ?_ GE224.out | refine below_set ?_ GE229.out | refine below_set ?_ GE236.out) | exact HB.out))) : w.heap.size ≤ gb259)); have n13_ := Aside0.mk ((by rw [hg]; exact Nat.ne_of_lt (blk_lt (g := gb212) (o := .cells #[.int .i16 a0_0, .slice A0_1 l0_1.length c0_1] 55 (0, 0)) (by (with_reducible repeat (first | refine blk_drewN ?_ _ | refine blk_drew ?_ | refine blk_alloc ?_ _)); exact BK212.out)) : gb212 ≠ gb259)); have n14_ := Aside0.mk ((by rw [hg]; exact Nat.ne_of_gt (blk_lt (g := gb212) (o := .cells #[.int .i16 a0_0, .slice A0_1 l0_1.length c0_1] 55 (0, 0)) (by (with_reducible repeat (first | refine blk_drewN ?_ _ | refine blk_drew ?_ | refine blk_alloc ?_ _)); exact BK212.out)) : gb259 ≠ gb212)); have n15_ := Aside0.mk ((by rw [hg]; exact Nat.ne_of_lt (blk_lt (g := gb224) (o := .cells #[.int .i16 t218, .slice Ao24 t219.length co24] 57 (0, 0)) (by (with_reducible repeat (first | refine blk_drewN ?_ _ | refine blk_drew ?_ | refine blk_alloc ?_ _)); exact BK224.out)) : gb224 ≠ gb259)); have n16_ := Aside0.mk ((by rw [hg]; exact Nat.ne_of_gt (blk_lt (g := gb224) (o := .cells #[.int .i16 t218, .slice Ao24 t219.length co24] 57 (0, 0)) (by (with_reducible repeat (first | refine blk_drewN ?_ _ | refine blk_drew ?_ | refine blk_alloc ?_ _)); exact BK224.out)) : gb259 ≠ gb224)); have n17_ := Aside0.mk ((by rw [hg]; exact Nat.ne_of_lt (blk_lt (g := gb229) (o := .cells #[.int .i16 t225, .slice Ao31 t244.length co31] 57 (0, 0)) (by (with_reducible repeat (first | refine blk_drewN ?_ _ | refine blk_drew ?_ | refine blk_alloc ?_ _)); exact BK229.out)) : gb229 ≠ gb259)); have n18_ := Aside0.mk ((by rw [hg]; exact Nat.ne_of_gt (blk_lt (g := gb229) (o := .cells #[.int .i16 t225, .slice Ao31 t244.length co31] 57 (0, 0)) (by (with_reducible repeat (first | refine blk_drewN ?_ _ | refine blk_drew ?_ | refine blk_alloc ?_ _)); exact BK229.out)) : gb259 ≠ gb229)); have n19_ := Aside0.mk ((by rw [hg]; exact Nat.ne_of_lt (blk_lt (g := gb236) (o := .cells #[.int .i16 t230, .slice Ao38 t231.length co38] 57 (0, 0)) (by (with_reducible repeat (first | refine blk_drewN ?_ _ | refine blk_drew ?_ | refine blk_alloc ?_ _)); exact BK236.out)) : gb236 ≠ gb259)); have n20_ := Aside0.mk ((by rw [hg]; exact Nat.ne_of_gt (blk_lt (g := gb236) (o := .cells #[.int .i16 t230, .slice Ao38 t231.length co38] 57 (0, 0)) (by (with_reducible repeat (first | refine blk_drewN ?_ _ | refine blk_drew ?_ | refine blk_alloc ?_ _)); exact BK236.out)) : gb259 ≠ gb236)); clear HO_225001; clear HO_230001; clear HO_237001; clear HO252; clear HO256; clear BK212; clear BK224; clear BK229; clear BK236; clear HB; have HO_225001 := n0_; have HO_230001 := n1_; have HO_237001 := n2_; have HO252 := n3_; have HO256 := n4_; have BK212 := n5_; have BK224 := n6_; have BK229 := n7_; have BK236 := n8_; have HB := n9_; have BK259 := n10_; have GW259 := n11_; have GE259 := n12_; have NB212_259 := n13_; have NB259_212 := n14_; have NB224_259 := n15_; have NB259_224 := n16_; have NB229_259 := n17_; have NB259_229 := n18_; have NB236_259 := n19_; have NB259_236 := n20_; clear n0_ n1_ n2_ n3_ n4_ n5_ n6_ n7_ n8_ n9_ n10_ n11_ n12_ n13_ n14_ n15_ n16_ n17_ n18_ n19_ n20_; clear hb hbox hg; have hnb131 := NB259_212.out; have hnc131 := NB212_259.out; have hnb132 := NB259_224.out; have hnc132 := NB224_259.out; have hnb133 := NB259_229.out; have hnc133 := NB229_259.out; have hnb134 := NB259_236.out; have hnc134 := NB236_259.out; have hcz135_0 : w130.cell? ⟨gb259, 0, none⟩ = some (.int .i16 0) := (blk_cell BK259.out 0).trans rfl; have hcz135_1 : w130.cell? ⟨gb259, 1, none⟩ = some (.slice none 0 0) := (blk_cell BK259.out 1).trans rfl; have hfz135_0 := blk_frozen BK259.out 0; have hfz135_1 := blk_frozen BK259.out 1; obtain ⟨Ao136, co136, eo136⟩ := Kd.R_slice HO256.out; subst eo136))
                      (try simp only [Act.put, List.setIfInBounds_toArray, List.set_cons_zero, List.set_cons_succ])
                      go_cut [118] (fun v118 wc => ∃ (kq : Nat) (x118_115 : Bool), v118 = .bool x118_115 ∧ Aside0 (laws_FnExactFrogTo.j2 kq t246 x118_115 t230 t247 = some r) ∧ Aside0 (kq ≤ kj70) ∧ Aside0 (Kd.R Kd.string 9 wc w.heap.size (fun k_ => some k_ ≠ ((.slice Ao31 t244.length co31) : Value).ownBlock ∧ some k_ ≠ ((.slice Ao38 t231.length co38) : Value).ownBlock ∧ some k_ ≠ ((.slice Ao136 t254.length co136) : Value).ownBlock) (.slice Ao24 t219.length co24) t219) ∧ Aside0 (Kd.R Kd.string 9 wc w.heap.size (fun k_ => some k_ ≠ ((.slice Ao24 t219.length co24) : Value).ownBlock ∧ some k_ ≠ ((.slice Ao38 t231.length co38) : Value).ownBlock ∧ some k_ ≠ ((.slice Ao136 t254.length co136) : Value).ownBlock) (.slice Ao31 t244.length co31) t244) ∧ Aside0 (Kd.R Kd.string 9 wc w.heap.size (fun k_ => some k_ ≠ ((.slice Ao24 t219.length co24) : Value).ownBlock ∧ some k_ ≠ ((.slice Ao31 t244.length co31) : Value).ownBlock ∧ some k_ ≠ ((.slice Ao136 t254.length co136) : Value).ownBlock) (.slice Ao38 t231.length co38) t247) ∧ Aside0 (Kd.R Kd.string 9 wc w.heap.size (fun k_ => some k_ ≠ ((.slice Ao24 t219.length co24) : Value).ownBlock ∧ some k_ ≠ ((.slice Ao31 t244.length co31) : Value).ownBlock ∧ some k_ ≠ ((.slice Ao38 t231.length co38) : Value).ownBlock) (.slice Ao136 t254.length co136) t254) ∧ Aside0 (wc.heap[gb212]? = some (.cells #[.int .i16 a0_0, (.slice A0_1 l0_1.length c0_1)] 55 (0, 0))) ∧ Aside0 (wc.heap[gb224]? = some (.cells #[.int .i16 t218, (.slice Ao24 t219.length co24)] 57 (0, 0))) ∧ Aside0 (wc.heap[gb229]? = some (.cells #[.int .i16 t225, (.slice Ao31 t244.length co31)] 57 (0, 0))) ∧ Aside0 (wc.heap[gb236]? = some (.cells #[.int .i16 t230, (.slice Ao38 t231.length co38)] 57 (0, 0))) ∧ Aside0 (wc.heap[gb259]? = some (.cells #[.int .i16 t253, (.slice Ao136 t254.length co136)] 57 (0, 0))) ∧ Aside0 (Below w.heap.size w wc))
                      case first =>
                        as_aux_lemma =>
                        have H := HC116.out
                        clear HC116
                        replace H := Option.bind_eq_some_iff.mp H
                        obtain ⟨t260, A1370, H⟩ := H
                        replace H : (if t260 = true then (if t257 = t222 then (laws_FnExactFrogTo.j2 kj70 t246 (t258 != t223) t230 t247) else (laws_FnExactFrogTo.j2 kj70 t246 true t230 t247)) else (laws_FnExactFrogTo.j2 kj70 t246 true t230 t247)) = some r := H
                        have A137 := Aside0.mk A1370
                        clear A1370
                        by_cases c138 : t260 = true
                        · subst c138
                          have H1 : (if t257 = t222 then (laws_FnExactFrogTo.j2 kj70 t246 (t258 != t223) t230 t247) else (laws_FnExactFrogTo.j2 kj70 t246 true t230 t247)) = some r := by rw [if_pos rfl] at H; exact H
                          clear H
                          have H := H1
                          clear H1
                          by_cases c139 : t257 = t222
                          · rw [if_pos c139] at H
                            have c139b0 : (t257 == t222) = true := beq_iff_eq.mpr c139
                            have c139b1 : (t257 != t222) = false := bne_eq_false_iff_eq.mpr c139
                            clear c139
                            (first | rw [c139b0] | (simp only [i64_w, i32_w]; rw [c139b0]) | skip)
                            have H' := Aside0.mk H
                            clear H
                            have hnb140 := NB259_212.out
                            have hnc140 := NB212_259.out
                            have hnb141 := NB259_224.out
                            have hnc141 := NB224_259.out
                            have hnb142 := NB259_229.out
                            have hnc142 := NB229_259.out
                            have hnb143 := NB259_236.out
                            have hnc143 := NB236_259.out
                            have hcz144_0 : w130.cell? ⟨gb259, 0, none⟩ = some (.int .i16 0) := (blk_cell BK259.out 0).trans rfl
                            have hcz144_1 : w130.cell? ⟨gb259, 1, none⟩ = some (.slice none 0 0) := (blk_cell BK259.out 1).trans rfl
                            have hfz144_0 := blk_frozen BK259.out 0
                            have hfz144_1 := blk_frozen BK259.out 1
                            have hnb145 := NB224_212.out
                            have hnc145 := NB212_224.out
                            have hnb146 := NB224_229.out
                            have hnc146 := NB229_224.out
                            have hnb147 := NB224_236.out
                            have hnc147 := NB236_224.out
                            have hcz148_0 : w130.cell? ⟨gb224, 0, none⟩ = some (.int .i16 t218) := (blk_cell BK224.out 0).trans rfl
                            have hcz148_1 : w130.cell? ⟨gb224, 1, none⟩ = some (.slice Ao24 t219.length co24) := (blk_cell BK224.out 1).trans rfl
                            have hfz148_0 := blk_frozen BK224.out 0
                            have hfz148_1 := blk_frozen BK224.out 1
                            go_wp2_with (first | ((with_reducible refine gate_callee (f := 36) rfl ?_); refine goesL_ (some 107) rfl rfl Try.func36 (by kernel_rfl) rfl #[.agg #[.int .i16 t253, .slice Ao136 t254.length co136], .agg #[.int .i16 t218, .slice Ao24 t219.length co24]] rfl (by (try simp only [List.map_toArray, List.map_cons, List.map_nil]); first | done | rfl | (simp only [List.length_drop, List.length_take]; rfl)) ?_; (with_reducible refine (laws_eqFabric.calls kj70 t253 _ _ t254 t218 _ _ t219 true _ ?side1 ?side2 ?side3 ?side4 A137.out).mono ?_); (case side1 => refine (Kd.R_reads' (e := 9) (base := w.heap.size) (ok := fun k_ => ((((True ∧ some k_ ≠ (.slice Ao24 t219.length co24 : Value).ownBlock) ∧ some k_ ≠ (.slice Ao31 t244.length co31 : Value).ownBlock) ∧ some k_ ≠ (.slice Ao38 t231.length co38 : Value).ownBlock) ∧ some k_ ≠ (.slice Ao128 t250.length co128 : Value).ownBlock)) (n := t254.length) (c := co136) ?_).2.2; exact (by (with_reducible repeat (first | apply Kd.R_alloc | apply Kd.R_drewN | apply Kd.R_drew)); exact (Kd.R_mono (Kd.R_far (p := ⟨gb259, 1, none⟩) (Kd.R_far (p := ⟨gb259, 0, none⟩) (Kd.R_types HO256.out BK259.out (by decide)) (fun _ hk => hk.2) (.int .i16 t253)) (fun _ hk => hk.2) (.slice Ao136 t254.length co136)) (fun _ h_ => h_.1)))); (case side2 => exact (Kd.R_reads' HO256.out).2.1); (case side3 => refine (Kd.R_reads' (e := 9) (base := w.heap.size) (ok := fun k_ => (((some k_ ≠ (.slice Ao31 t244.length co31 : Value).ownBlock ∧ some k_ ≠ (.slice Ao38 t231.length co38 : Value).ownBlock) ∧ some k_ ≠ (.slice Ao128 t250.length co128 : Value).ownBlock) ∧ some k_ ≠ (.slice Ao136 t254.length co136 : Value).ownBlock)) (n := t219.length) (c := co24) ?_).2.2; exact (by (with_reducible repeat (first | apply Kd.R_alloc | apply Kd.R_drewN | apply Kd.R_drew)); exact (Kd.R_mono (Kd.R_far (p := ⟨gb259, 1, none⟩) (Kd.R_far (p := ⟨gb259, 0, none⟩) (Kd.R_types HO_225001.out BK259.out (by decide)) (fun _ hk => hk.2) (.int .i16 t253)) (fun _ hk => hk.2) (.slice Ao136 t254.length co136)) (fun _ h_ => h_.1)))); (case side4 => exact (Kd.R_reads' HO_225001.out).2.1); rintro e w149 ⟨rfl, hb⟩; refine ⟨_, rfl, ?_⟩; have n0_ := Aside0.mk (Kd.R_below (by (with_reducible repeat (first | apply Kd.R_alloc | apply Kd.R_drewN | apply Kd.R_drew)); exact (Kd.R_mono (Kd.R_far (p := ⟨gb259, 1, none⟩) (Kd.R_far (p := ⟨gb259, 0, none⟩) (Kd.R_types HO_225001.out BK259.out (by decide)) (fun _ hk => hk.2) (.int .i16 t253)) (fun _ hk => hk.2) (.slice Ao136 t254.length co136)) (fun _ h_ => h_.1))) hb); have n1_ := Aside0.mk (Kd.R_below (by (with_reducible repeat (first | apply Kd.R_alloc | apply Kd.R_drewN | apply Kd.R_drew)); exact (Kd.R_mono (Kd.R_far (p := ⟨gb259, 1, none⟩) (Kd.R_far (p := ⟨gb259, 0, none⟩) (Kd.R_types HO_230001.out BK259.out (by decide)) (fun _ hk => hk.2) (.int .i16 t253)) (fun _ hk => hk.2) (.slice Ao136 t254.length co136)) (fun _ h_ => h_.1))) hb); have n2_ := Aside0.mk (Kd.R_below (by (with_reducible repeat (first | apply Kd.R_alloc | apply Kd.R_drewN | apply Kd.R_drew)); exact (Kd.R_mono (Kd.R_far (p := ⟨gb259, 1, none⟩) (Kd.R_far (p := ⟨gb259, 0, none⟩) (Kd.R_types HO_237001.out BK259.out (by decide)) (fun _ hk => hk.2) (.int .i16 t253)) (fun _ hk => hk.2) (.slice Ao136 t254.length co136)) (fun _ h_ => h_.1))) hb); have n3_ := Aside0.mk (Kd.R_below (by (with_reducible repeat (first | apply Kd.R_alloc | apply Kd.R_drewN | apply Kd.R_drew)); exact (Kd.R_mono (Kd.R_far (p := ⟨gb259, 1, none⟩) (Kd.R_far (p := ⟨gb259, 0, none⟩) (Kd.R_types HO252.out BK259.out (by decide)) (fun _ hk => hk.2) (.int .i16 t253)) (fun _ hk => hk.2) (.slice Ao136 t254.length co136)) (fun _ h_ => h_.1))) hb); have n4_ := Aside0.mk (Kd.R_below (by (with_reducible repeat (first | apply Kd.R_alloc | apply Kd.R_drewN | apply Kd.R_drew)); exact (Kd.R_mono (Kd.R_far (p := ⟨gb259, 1, none⟩) (Kd.R_far (p := ⟨gb259, 0, none⟩) (Kd.R_types HO256.out BK259.out (by decide)) (fun _ hk => hk.2) (.int .i16 t253)) (fun _ hk => hk.2) (.slice Ao136 t254.length co136)) (fun _ h_ => h_.1))) hb); have n5_ := Aside0.mk (blk_below (g := gb212) (o := .cells #[.int .i16 a0_0, .slice A0_1 l0_1.length c0_1] 55 (0, 0)) (by (with_reducible repeat (first | refine blk_drewN ?_ _ | refine blk_drew ?_ | refine blk_alloc ?_ _)); refine blk_far ?_ NB212_259.out _; (with_reducible repeat (first | refine blk_drewN ?_ _ | refine blk_drew ?_ | refine blk_alloc ?_ _)); refine blk_far ?_ NB212_259.out _; (with_reducible repeat (first | refine blk_drewN ?_ _ | refine blk_drew ?_ | refine blk_alloc ?_ _)); exact BK212.out) hb); have n6_ := Aside0.mk (blk_below (g := gb224) (o := .cells #[.int .i16 t218, .slice Ao24 t219.length co24] 57 (0, 0)) (by (with_reducible repeat (first | refine blk_drewN ?_ _ | refine blk_drew ?_ | refine blk_alloc ?_ _)); refine blk_far ?_ NB224_259.out _; (with_reducible repeat (first | refine blk_drewN ?_ _ | refine blk_drew ?_ | refine blk_alloc ?_ _)); refine blk_far ?_ NB224_259.out _; (with_reducible repeat (first | refine blk_drewN ?_ _ | refine blk_drew ?_ | refine blk_alloc ?_ _)); exact BK224.out) hb); have n7_ := Aside0.mk (blk_below (g := gb229) (o := .cells #[.int .i16 t225, .slice Ao31 t244.length co31] 57 (0, 0)) (by (with_reducible repeat (first | refine blk_drewN ?_ _ | refine blk_drew ?_ | refine blk_alloc ?_ _)); refine blk_far ?_ NB229_259.out _; (with_reducible repeat (first | refine blk_drewN ?_ _ | refine blk_drew ?_ | refine blk_alloc ?_ _)); refine blk_far ?_ NB229_259.out _; (with_reducible repeat (first | refine blk_drewN ?_ _ | refine blk_drew ?_ | refine blk_alloc ?_ _)); exact BK229.out) hb); have n8_ := Aside0.mk (blk_below (g := gb236) (o := .cells #[.int .i16 t230, .slice Ao38 t231.length co38] 57 (0, 0)) (by (with_reducible repeat (first | refine blk_drewN ?_ _ | refine blk_drew ?_ | refine blk_alloc ?_ _)); refine blk_far ?_ NB236_259.out _; (with_reducible repeat (first | refine blk_drewN ?_ _ | refine blk_drew ?_ | refine blk_alloc ?_ _)); refine blk_far ?_ NB236_259.out _; (with_reducible repeat (first | refine blk_drewN ?_ _ | refine blk_drew ?_ | refine blk_alloc ?_ _)); exact BK236.out) hb); have n9_ := Aside0.mk (blk_below (g := gb259) (o := .cells #[.int .i16 t253, .slice Ao136 t254.length co136] 57 (0, 0)) (by (with_reducible repeat (first | refine blk_drewN ?_ _ | refine blk_drew ?_ | refine blk_alloc ?_ _)); refine blk_put (cs := #[.int .i16 t253, .slice none 0 0]) ?_ 1 _ rfl; (with_reducible repeat (first | refine blk_drewN ?_ _ | refine blk_drew ?_ | refine blk_alloc ?_ _)); refine blk_put (cs := #[.int .i16 0, .slice none 0 0]) ?_ 0 _ rfl; (with_reducible repeat (first | refine blk_drewN ?_ _ | refine blk_drew ?_ | refine blk_alloc ?_ _)); exact BK259.out) hb); have n10_ := Aside0.mk (below_step (by repeat (first | (with_reducible first | exact HB.out | apply below_alloc | apply pw_below_drewN | apply below_drew1 | refine below_set ?_ GE212.out | refine below_set ?_ GE224.out | refine below_set ?_ GE229.out | refine below_set ?_ GE236.out | refine below_set ?_ GE259.out) | exact HB.out)) hb); clear HO_225001; clear HO_230001; clear HO_237001; clear HO252; clear HO256; clear BK212; clear BK224; clear BK229; clear BK236; clear BK259; clear HB; have HO_225001 := n0_; have HO_230001 := n1_; have HO_237001 := n2_; have HO252 := n3_; have HO256 := n4_; have BK212 := n5_; have BK224 := n6_; have BK229 := n7_; have BK236 := n8_; have BK259 := n9_; have HB := n10_; clear n0_ n1_ n2_ n3_ n4_ n5_ n6_ n7_ n8_ n9_ n10_; (try clear hb); (try clear hb2); (try clear hk); (try clear hi)))
                            go_meet
                            case rel => exact ⟨_, ((t258 != t223)), (by first | rfl | (simp; done) | (simp [*]; done)), H', ⟨by have := HJ12.out; have := HJ70.out; first | omega | exact Nat.le_refl _⟩, ⟨by (try simp only [hl230001_70]); (with_reducible repeat (first | apply Kd.R_alloc | apply Kd.R_drewN | apply Kd.R_drew)); exact Kd.R_mono HO_225001.out (fun _ hk => ⟨hk.1.1.1, ⟨hk.1.1.2, hk.2⟩⟩)⟩, ⟨by (try simp only [hl230001_70]); (with_reducible repeat (first | apply Kd.R_alloc | apply Kd.R_drewN | apply Kd.R_drew)); exact Kd.R_mono HO_230001.out (fun _ hk => ⟨hk.1.1.1, ⟨hk.1.1.2, hk.2⟩⟩)⟩, ⟨by (try simp only [hl230001_70]); (with_reducible repeat (first | apply Kd.R_alloc | apply Kd.R_drewN | apply Kd.R_drew)); exact Kd.R_mono HO_237001.out (fun _ hk => ⟨hk.1.1.1, ⟨hk.1.1.2, hk.2⟩⟩)⟩, ⟨by (try simp only [hl230001_70]); (with_reducible repeat (first | apply Kd.R_alloc | apply Kd.R_drewN | apply Kd.R_drew)); exact Kd.R_mono HO256.out (fun _ hk => ⟨hk.1.1.1.2, ⟨hk.1.1.2, hk.1.2⟩⟩)⟩, ⟨by (try simp only [hl230001_70]); (with_reducible repeat (first | refine blk_drewN ?_ _ | refine blk_drew ?_ | refine blk_alloc ?_ _)); exact BK212.out⟩, ⟨by (try simp only [hl230001_70]); (with_reducible repeat (first | refine blk_drewN ?_ _ | refine blk_drew ?_ | refine blk_alloc ?_ _)); exact BK224.out⟩, ⟨by (try simp only [hl230001_70]); (with_reducible repeat (first | refine blk_drewN ?_ _ | refine blk_drew ?_ | refine blk_alloc ?_ _)); exact BK229.out⟩, ⟨by (try simp only [hl230001_70]); (with_reducible repeat (first | refine blk_drewN ?_ _ | refine blk_drew ?_ | refine blk_alloc ?_ _)); exact BK236.out⟩, ⟨by (try simp only [hl230001_70]); (with_reducible repeat (first | refine blk_drewN ?_ _ | refine blk_drew ?_ | refine blk_alloc ?_ _)); exact BK259.out⟩, ⟨by repeat (first | (with_reducible first | exact HB.out | apply below_alloc | apply pw_below_drewN | apply below_drew1 | refine below_set ?_ GE212.out | refine below_set ?_ GE224.out | refine below_set ?_ GE229.out | refine below_set ?_ GE236.out | refine below_set ?_ GE259.out) | exact HB.out)⟩⟩
                          · rw [if_neg c139] at H
                            have c139b0 : (t257 == t222) = false := beq_eq_false_iff_ne.mpr c139
                            have c139b1 : (t257 != t222) = true := bne_iff_ne.mpr c139
                            (first | rw [c139b0] | (simp only [i64_w, i32_w]; rw [c139b0]) | skip)
                            have H' := Aside0.mk H
                            clear H
                            have hnb150 := NB259_212.out
                            have hnc150 := NB212_259.out
                            have hnb151 := NB259_224.out
                            have hnc151 := NB224_259.out
                            have hnb152 := NB259_229.out
                            have hnc152 := NB229_259.out
                            have hnb153 := NB259_236.out
                            have hnc153 := NB236_259.out
                            have hcz154_0 : w130.cell? ⟨gb259, 0, none⟩ = some (.int .i16 0) := (blk_cell BK259.out 0).trans rfl
                            have hcz154_1 : w130.cell? ⟨gb259, 1, none⟩ = some (.slice none 0 0) := (blk_cell BK259.out 1).trans rfl
                            have hfz154_0 := blk_frozen BK259.out 0
                            have hfz154_1 := blk_frozen BK259.out 1
                            have hnb155 := NB224_212.out
                            have hnc155 := NB212_224.out
                            have hnb156 := NB224_229.out
                            have hnc156 := NB229_224.out
                            have hnb157 := NB224_236.out
                            have hnc157 := NB236_224.out
                            have hcz158_0 : w130.cell? ⟨gb224, 0, none⟩ = some (.int .i16 t218) := (blk_cell BK224.out 0).trans rfl
                            have hcz158_1 : w130.cell? ⟨gb224, 1, none⟩ = some (.slice Ao24 t219.length co24) := (blk_cell BK224.out 1).trans rfl
                            have hfz158_0 := blk_frozen BK224.out 0
                            have hfz158_1 := blk_frozen BK224.out 1
                            go_wp2_with (first | ((with_reducible refine gate_callee (f := 36) rfl ?_); refine goesL_ (some 107) rfl rfl Try.func36 (by kernel_rfl) rfl #[.agg #[.int .i16 t253, .slice Ao136 t254.length co136], .agg #[.int .i16 t218, .slice Ao24 t219.length co24]] rfl (by (try simp only [List.map_toArray, List.map_cons, List.map_nil]); first | done | rfl | (simp only [List.length_drop, List.length_take]; rfl)) ?_; (with_reducible refine (laws_eqFabric.calls kj70 t253 _ _ t254 t218 _ _ t219 true _ ?side1 ?side2 ?side3 ?side4 A137.out).mono ?_); (case side1 => refine (Kd.R_reads' (e := 9) (base := w.heap.size) (ok := fun k_ => ((((True ∧ some k_ ≠ (.slice Ao24 t219.length co24 : Value).ownBlock) ∧ some k_ ≠ (.slice Ao31 t244.length co31 : Value).ownBlock) ∧ some k_ ≠ (.slice Ao38 t231.length co38 : Value).ownBlock) ∧ some k_ ≠ (.slice Ao128 t250.length co128 : Value).ownBlock)) (n := t254.length) (c := co136) ?_).2.2; exact (by (with_reducible repeat (first | apply Kd.R_alloc | apply Kd.R_drewN | apply Kd.R_drew)); exact (Kd.R_mono (Kd.R_far (p := ⟨gb259, 1, none⟩) (Kd.R_far (p := ⟨gb259, 0, none⟩) (Kd.R_types HO256.out BK259.out (by decide)) (fun _ hk => hk.2) (.int .i16 t253)) (fun _ hk => hk.2) (.slice Ao136 t254.length co136)) (fun _ h_ => h_.1)))); (case side2 => exact (Kd.R_reads' HO256.out).2.1); (case side3 => refine (Kd.R_reads' (e := 9) (base := w.heap.size) (ok := fun k_ => (((some k_ ≠ (.slice Ao31 t244.length co31 : Value).ownBlock ∧ some k_ ≠ (.slice Ao38 t231.length co38 : Value).ownBlock) ∧ some k_ ≠ (.slice Ao128 t250.length co128 : Value).ownBlock) ∧ some k_ ≠ (.slice Ao136 t254.length co136 : Value).ownBlock)) (n := t219.length) (c := co24) ?_).2.2; exact (by (with_reducible repeat (first | apply Kd.R_alloc | apply Kd.R_drewN | apply Kd.R_drew)); exact (Kd.R_mono (Kd.R_far (p := ⟨gb259, 1, none⟩) (Kd.R_far (p := ⟨gb259, 0, none⟩) (Kd.R_types HO_225001.out BK259.out (by decide)) (fun _ hk => hk.2) (.int .i16 t253)) (fun _ hk => hk.2) (.slice Ao136 t254.length co136)) (fun _ h_ => h_.1)))); (case side4 => exact (Kd.R_reads' HO_225001.out).2.1); rintro e w159 ⟨rfl, hb⟩; refine ⟨_, rfl, ?_⟩; have n0_ := Aside0.mk (Kd.R_below (by (with_reducible repeat (first | apply Kd.R_alloc | apply Kd.R_drewN | apply Kd.R_drew)); exact (Kd.R_mono (Kd.R_far (p := ⟨gb259, 1, none⟩) (Kd.R_far (p := ⟨gb259, 0, none⟩) (Kd.R_types HO_225001.out BK259.out (by decide)) (fun _ hk => hk.2) (.int .i16 t253)) (fun _ hk => hk.2) (.slice Ao136 t254.length co136)) (fun _ h_ => h_.1))) hb); have n1_ := Aside0.mk (Kd.R_below (by (with_reducible repeat (first | apply Kd.R_alloc | apply Kd.R_drewN | apply Kd.R_drew)); exact (Kd.R_mono (Kd.R_far (p := ⟨gb259, 1, none⟩) (Kd.R_far (p := ⟨gb259, 0, none⟩) (Kd.R_types HO_230001.out BK259.out (by decide)) (fun _ hk => hk.2) (.int .i16 t253)) (fun _ hk => hk.2) (.slice Ao136 t254.length co136)) (fun _ h_ => h_.1))) hb); have n2_ := Aside0.mk (Kd.R_below (by (with_reducible repeat (first | apply Kd.R_alloc | apply Kd.R_drewN | apply Kd.R_drew)); exact (Kd.R_mono (Kd.R_far (p := ⟨gb259, 1, none⟩) (Kd.R_far (p := ⟨gb259, 0, none⟩) (Kd.R_types HO_237001.out BK259.out (by decide)) (fun _ hk => hk.2) (.int .i16 t253)) (fun _ hk => hk.2) (.slice Ao136 t254.length co136)) (fun _ h_ => h_.1))) hb); have n3_ := Aside0.mk (Kd.R_below (by (with_reducible repeat (first | apply Kd.R_alloc | apply Kd.R_drewN | apply Kd.R_drew)); exact (Kd.R_mono (Kd.R_far (p := ⟨gb259, 1, none⟩) (Kd.R_far (p := ⟨gb259, 0, none⟩) (Kd.R_types HO252.out BK259.out (by decide)) (fun _ hk => hk.2) (.int .i16 t253)) (fun _ hk => hk.2) (.slice Ao136 t254.length co136)) (fun _ h_ => h_.1))) hb); have n4_ := Aside0.mk (Kd.R_below (by (with_reducible repeat (first | apply Kd.R_alloc | apply Kd.R_drewN | apply Kd.R_drew)); exact (Kd.R_mono (Kd.R_far (p := ⟨gb259, 1, none⟩) (Kd.R_far (p := ⟨gb259, 0, none⟩) (Kd.R_types HO256.out BK259.out (by decide)) (fun _ hk => hk.2) (.int .i16 t253)) (fun _ hk => hk.2) (.slice Ao136 t254.length co136)) (fun _ h_ => h_.1))) hb); have n5_ := Aside0.mk (blk_below (g := gb212) (o := .cells #[.int .i16 a0_0, .slice A0_1 l0_1.length c0_1] 55 (0, 0)) (by (with_reducible repeat (first | refine blk_drewN ?_ _ | refine blk_drew ?_ | refine blk_alloc ?_ _)); refine blk_far ?_ NB212_259.out _; (with_reducible repeat (first | refine blk_drewN ?_ _ | refine blk_drew ?_ | refine blk_alloc ?_ _)); refine blk_far ?_ NB212_259.out _; (with_reducible repeat (first | refine blk_drewN ?_ _ | refine blk_drew ?_ | refine blk_alloc ?_ _)); exact BK212.out) hb); have n6_ := Aside0.mk (blk_below (g := gb224) (o := .cells #[.int .i16 t218, .slice Ao24 t219.length co24] 57 (0, 0)) (by (with_reducible repeat (first | refine blk_drewN ?_ _ | refine blk_drew ?_ | refine blk_alloc ?_ _)); refine blk_far ?_ NB224_259.out _; (with_reducible repeat (first | refine blk_drewN ?_ _ | refine blk_drew ?_ | refine blk_alloc ?_ _)); refine blk_far ?_ NB224_259.out _; (with_reducible repeat (first | refine blk_drewN ?_ _ | refine blk_drew ?_ | refine blk_alloc ?_ _)); exact BK224.out) hb); have n7_ := Aside0.mk (blk_below (g := gb229) (o := .cells #[.int .i16 t225, .slice Ao31 t244.length co31] 57 (0, 0)) (by (with_reducible repeat (first | refine blk_drewN ?_ _ | refine blk_drew ?_ | refine blk_alloc ?_ _)); refine blk_far ?_ NB229_259.out _; (with_reducible repeat (first | refine blk_drewN ?_ _ | refine blk_drew ?_ | refine blk_alloc ?_ _)); refine blk_far ?_ NB229_259.out _; (with_reducible repeat (first | refine blk_drewN ?_ _ | refine blk_drew ?_ | refine blk_alloc ?_ _)); exact BK229.out) hb); have n8_ := Aside0.mk (blk_below (g := gb236) (o := .cells #[.int .i16 t230, .slice Ao38 t231.length co38] 57 (0, 0)) (by (with_reducible repeat (first | refine blk_drewN ?_ _ | refine blk_drew ?_ | refine blk_alloc ?_ _)); refine blk_far ?_ NB236_259.out _; (with_reducible repeat (first | refine blk_drewN ?_ _ | refine blk_drew ?_ | refine blk_alloc ?_ _)); refine blk_far ?_ NB236_259.out _; (with_reducible repeat (first | refine blk_drewN ?_ _ | refine blk_drew ?_ | refine blk_alloc ?_ _)); exact BK236.out) hb); have n9_ := Aside0.mk (blk_below (g := gb259) (o := .cells #[.int .i16 t253, .slice Ao136 t254.length co136] 57 (0, 0)) (by (with_reducible repeat (first | refine blk_drewN ?_ _ | refine blk_drew ?_ | refine blk_alloc ?_ _)); refine blk_put (cs := #[.int .i16 t253, .slice none 0 0]) ?_ 1 _ rfl; (with_reducible repeat (first | refine blk_drewN ?_ _ | refine blk_drew ?_ | refine blk_alloc ?_ _)); refine blk_put (cs := #[.int .i16 0, .slice none 0 0]) ?_ 0 _ rfl; (with_reducible repeat (first | refine blk_drewN ?_ _ | refine blk_drew ?_ | refine blk_alloc ?_ _)); exact BK259.out) hb); have n10_ := Aside0.mk (below_step (by repeat (first | (with_reducible first | exact HB.out | apply below_alloc | apply pw_below_drewN | apply below_drew1 | refine below_set ?_ GE212.out | refine below_set ?_ GE224.out | refine below_set ?_ GE229.out | refine below_set ?_ GE236.out | refine below_set ?_ GE259.out) | exact HB.out)) hb); clear HO_225001; clear HO_230001; clear HO_237001; clear HO252; clear HO256; clear BK212; clear BK224; clear BK229; clear BK236; clear BK259; clear HB; have HO_225001 := n0_; have HO_230001 := n1_; have HO_237001 := n2_; have HO252 := n3_; have HO256 := n4_; have BK212 := n5_; have BK224 := n6_; have BK229 := n7_; have BK236 := n8_; have BK259 := n9_; have HB := n10_; clear n0_ n1_ n2_ n3_ n4_ n5_ n6_ n7_ n8_ n9_ n10_; (try clear hb); (try clear hb2); (try clear hk); (try clear hi)))
                            go_meet
                            case rel => exact ⟨_, (true), (by first | rfl | (simp; done) | (simp [*]; done)), H', ⟨by have := HJ12.out; have := HJ70.out; first | omega | exact Nat.le_refl _⟩, ⟨by (try simp only [hl230001_70]); (with_reducible repeat (first | apply Kd.R_alloc | apply Kd.R_drewN | apply Kd.R_drew)); exact Kd.R_mono HO_225001.out (fun _ hk => ⟨hk.1.1.1, ⟨hk.1.1.2, hk.2⟩⟩)⟩, ⟨by (try simp only [hl230001_70]); (with_reducible repeat (first | apply Kd.R_alloc | apply Kd.R_drewN | apply Kd.R_drew)); exact Kd.R_mono HO_230001.out (fun _ hk => ⟨hk.1.1.1, ⟨hk.1.1.2, hk.2⟩⟩)⟩, ⟨by (try simp only [hl230001_70]); (with_reducible repeat (first | apply Kd.R_alloc | apply Kd.R_drewN | apply Kd.R_drew)); exact Kd.R_mono HO_237001.out (fun _ hk => ⟨hk.1.1.1, ⟨hk.1.1.2, hk.2⟩⟩)⟩, ⟨by (try simp only [hl230001_70]); (with_reducible repeat (first | apply Kd.R_alloc | apply Kd.R_drewN | apply Kd.R_drew)); exact Kd.R_mono HO256.out (fun _ hk => ⟨hk.1.1.1.2, ⟨hk.1.1.2, hk.1.2⟩⟩)⟩, ⟨by (try simp only [hl230001_70]); (with_reducible repeat (first | refine blk_drewN ?_ _ | refine blk_drew ?_ | refine blk_alloc ?_ _)); exact BK212.out⟩, ⟨by (try simp only [hl230001_70]); (with_reducible repeat (first | refine blk_drewN ?_ _ | refine blk_drew ?_ | refine blk_alloc ?_ _)); exact BK224.out⟩, ⟨by (try simp only [hl230001_70]); (with_reducible repeat (first | refine blk_drewN ?_ _ | refine blk_drew ?_ | refine blk_alloc ?_ _)); exact BK229.out⟩, ⟨by (try simp only [hl230001_70]); (with_reducible repeat (first | refine blk_drewN ?_ _ | refine blk_drew ?_ | refine blk_alloc ?_ _)); exact BK236.out⟩, ⟨by (try simp only [hl230001_70]); (with_reducible repeat (first | refine blk_drewN ?_ _ | refine blk_drew ?_ | refine blk_alloc ?_ _)); exact BK259.out⟩, ⟨by repeat (first | (with_reducible first | exact HB.out | apply below_alloc | apply pw_below_drewN | apply below_drew1 | refine below_set ?_ GE212.out | refine below_set ?_ GE224.out | refine below_set ?_ GE229.out | refine below_set ?_ GE236.out | refine below_set ?_ GE259.out) | exact HB.out)⟩⟩
                        · replace c138 := Bool.eq_false_iff.mpr c138
                          subst c138
                          have H1 : (laws_FnExactFrogTo.j2 kj70 t246 true t230 t247) = some r := by rw [if_neg (show ¬ (false = true) by decide)] at H; exact H
                          clear H
                          have H := H1
                          clear H1
                          have H' := Aside0.mk H
                          clear H
                          have hnb160 := NB259_212.out
                          have hnc160 := NB212_259.out
                          have hnb161 := NB259_224.out
                          have hnc161 := NB224_259.out
                          have hnb162 := NB259_229.out
                          have hnc162 := NB229_259.out
                          have hnb163 := NB259_236.out
                          have hnc163 := NB236_259.out
                          have hcz164_0 : w130.cell? ⟨gb259, 0, none⟩ = some (.int .i16 0) := (blk_cell BK259.out 0).trans rfl
                          have hcz164_1 : w130.cell? ⟨gb259, 1, none⟩ = some (.slice none 0 0) := (blk_cell BK259.out 1).trans rfl
                          have hfz164_0 := blk_frozen BK259.out 0
                          have hfz164_1 := blk_frozen BK259.out 1
                          have hnb165 := NB224_212.out
                          have hnc165 := NB212_224.out
                          have hnb166 := NB224_229.out
                          have hnc166 := NB229_224.out
                          have hnb167 := NB224_236.out
                          have hnc167 := NB236_224.out
                          have hcz168_0 : w130.cell? ⟨gb224, 0, none⟩ = some (.int .i16 t218) := (blk_cell BK224.out 0).trans rfl
                          have hcz168_1 : w130.cell? ⟨gb224, 1, none⟩ = some (.slice Ao24 t219.length co24) := (blk_cell BK224.out 1).trans rfl
                          have hfz168_0 := blk_frozen BK224.out 0
                          have hfz168_1 := blk_frozen BK224.out 1
                          go_wp2_with (first | ((with_reducible refine gate_callee (f := 36) rfl ?_); refine goesL_ (some 107) rfl rfl Try.func36 (by kernel_rfl) rfl #[.agg #[.int .i16 t253, .slice Ao136 t254.length co136], .agg #[.int .i16 t218, .slice Ao24 t219.length co24]] rfl (by (try simp only [List.map_toArray, List.map_cons, List.map_nil]); first | done | rfl | (simp only [List.length_drop, List.length_take]; rfl)) ?_; (with_reducible refine (laws_eqFabric.calls kj70 t253 _ _ t254 t218 _ _ t219 false _ ?side1 ?side2 ?side3 ?side4 A137.out).mono ?_); (case side1 => refine (Kd.R_reads' (e := 9) (base := w.heap.size) (ok := fun k_ => ((((True ∧ some k_ ≠ (.slice Ao24 t219.length co24 : Value).ownBlock) ∧ some k_ ≠ (.slice Ao31 t244.length co31 : Value).ownBlock) ∧ some k_ ≠ (.slice Ao38 t231.length co38 : Value).ownBlock) ∧ some k_ ≠ (.slice Ao128 t250.length co128 : Value).ownBlock)) (n := t254.length) (c := co136) ?_).2.2; exact (by (with_reducible repeat (first | apply Kd.R_alloc | apply Kd.R_drewN | apply Kd.R_drew)); exact (Kd.R_mono (Kd.R_far (p := ⟨gb259, 1, none⟩) (Kd.R_far (p := ⟨gb259, 0, none⟩) (Kd.R_types HO256.out BK259.out (by decide)) (fun _ hk => hk.2) (.int .i16 t253)) (fun _ hk => hk.2) (.slice Ao136 t254.length co136)) (fun _ h_ => h_.1)))); (case side2 => exact (Kd.R_reads' HO256.out).2.1); (case side3 => refine (Kd.R_reads' (e := 9) (base := w.heap.size) (ok := fun k_ => (((some k_ ≠ (.slice Ao31 t244.length co31 : Value).ownBlock ∧ some k_ ≠ (.slice Ao38 t231.length co38 : Value).ownBlock) ∧ some k_ ≠ (.slice Ao128 t250.length co128 : Value).ownBlock) ∧ some k_ ≠ (.slice Ao136 t254.length co136 : Value).ownBlock)) (n := t219.length) (c := co24) ?_).2.2; exact (by (with_reducible repeat (first | apply Kd.R_alloc | apply Kd.R_drewN | apply Kd.R_drew)); exact (Kd.R_mono (Kd.R_far (p := ⟨gb259, 1, none⟩) (Kd.R_far (p := ⟨gb259, 0, none⟩) (Kd.R_types HO_225001.out BK259.out (by decide)) (fun _ hk => hk.2) (.int .i16 t253)) (fun _ hk => hk.2) (.slice Ao136 t254.length co136)) (fun _ h_ => h_.1)))); (case side4 => exact (Kd.R_reads' HO_225001.out).2.1); rintro e w169 ⟨rfl, hb⟩; refine ⟨_, rfl, ?_⟩; have n0_ := Aside0.mk (Kd.R_below (by (with_reducible repeat (first | apply Kd.R_alloc | apply Kd.R_drewN | apply Kd.R_drew)); exact (Kd.R_mono (Kd.R_far (p := ⟨gb259, 1, none⟩) (Kd.R_far (p := ⟨gb259, 0, none⟩) (Kd.R_types HO_225001.out BK259.out (by decide)) (fun _ hk => hk.2) (.int .i16 t253)) (fun _ hk => hk.2) (.slice Ao136 t254.length co136)) (fun _ h_ => h_.1))) hb); have n1_ := Aside0.mk (Kd.R_below (by (with_reducible repeat (first | apply Kd.R_alloc | apply Kd.R_drewN | apply Kd.R_drew)); exact (Kd.R_mono (Kd.R_far (p := ⟨gb259, 1, none⟩) (Kd.R_far (p := ⟨gb259, 0, none⟩) (Kd.R_types HO_230001.out BK259.out (by decide)) (fun _ hk => hk.2) (.int .i16 t253)) (fun _ hk => hk.2) (.slice Ao136 t254.length co136)) (fun _ h_ => h_.1))) hb); have n2_ := Aside0.mk (Kd.R_below (by (with_reducible repeat (first | apply Kd.R_alloc | apply Kd.R_drewN | apply Kd.R_drew)); exact (Kd.R_mono (Kd.R_far (p := ⟨gb259, 1, none⟩) (Kd.R_far (p := ⟨gb259, 0, none⟩) (Kd.R_types HO_237001.out BK259.out (by decide)) (fun _ hk => hk.2) (.int .i16 t253)) (fun _ hk => hk.2) (.slice Ao136 t254.length co136)) (fun _ h_ => h_.1))) hb); have n3_ := Aside0.mk (Kd.R_below (by (with_reducible repeat (first | apply Kd.R_alloc | apply Kd.R_drewN | apply Kd.R_drew)); exact (Kd.R_mono (Kd.R_far (p := ⟨gb259, 1, none⟩) (Kd.R_far (p := ⟨gb259, 0, none⟩) (Kd.R_types HO252.out BK259.out (by decide)) (fun _ hk => hk.2) (.int .i16 t253)) (fun _ hk => hk.2) (.slice Ao136 t254.length co136)) (fun _ h_ => h_.1))) hb); have n4_ := Aside0.mk (Kd.R_below (by (with_reducible repeat (first | apply Kd.R_alloc | apply Kd.R_drewN | apply Kd.R_drew)); exact (Kd.R_mono (Kd.R_far (p := ⟨gb259, 1, none⟩) (Kd.R_far (p := ⟨gb259, 0, none⟩) (Kd.R_types HO256.out BK259.out (by decide)) (fun _ hk => hk.2) (.int .i16 t253)) (fun _ hk => hk.2) (.slice Ao136 t254.length co136)) (fun _ h_ => h_.1))) hb); have n5_ := Aside0.mk (blk_below (g := gb212) (o := .cells #[.int .i16 a0_0, .slice A0_1 l0_1.length c0_1] 55 (0, 0)) (by (with_reducible repeat (first | refine blk_drewN ?_ _ | refine blk_drew ?_ | refine blk_alloc ?_ _)); refine blk_far ?_ NB212_259.out _; (with_reducible repeat (first | refine blk_drewN ?_ _ | refine blk_drew ?_ | refine blk_alloc ?_ _)); refine blk_far ?_ NB212_259.out _; (with_reducible repeat (first | refine blk_drewN ?_ _ | refine blk_drew ?_ | refine blk_alloc ?_ _)); exact BK212.out) hb); have n6_ := Aside0.mk (blk_below (g := gb224) (o := .cells #[.int .i16 t218, .slice Ao24 t219.length co24] 57 (0, 0)) (by (with_reducible repeat (first | refine blk_drewN ?_ _ | refine blk_drew ?_ | refine blk_alloc ?_ _)); refine blk_far ?_ NB224_259.out _; (with_reducible repeat (first | refine blk_drewN ?_ _ | refine blk_drew ?_ | refine blk_alloc ?_ _)); refine blk_far ?_ NB224_259.out _; (with_reducible repeat (first | refine blk_drewN ?_ _ | refine blk_drew ?_ | refine blk_alloc ?_ _)); exact BK224.out) hb); have n7_ := Aside0.mk (blk_below (g := gb229) (o := .cells #[.int .i16 t225, .slice Ao31 t244.length co31] 57 (0, 0)) (by (with_reducible repeat (first | refine blk_drewN ?_ _ | refine blk_drew ?_ | refine blk_alloc ?_ _)); refine blk_far ?_ NB229_259.out _; (with_reducible repeat (first | refine blk_drewN ?_ _ | refine blk_drew ?_ | refine blk_alloc ?_ _)); refine blk_far ?_ NB229_259.out _; (with_reducible repeat (first | refine blk_drewN ?_ _ | refine blk_drew ?_ | refine blk_alloc ?_ _)); exact BK229.out) hb); have n8_ := Aside0.mk (blk_below (g := gb236) (o := .cells #[.int .i16 t230, .slice Ao38 t231.length co38] 57 (0, 0)) (by (with_reducible repeat (first | refine blk_drewN ?_ _ | refine blk_drew ?_ | refine blk_alloc ?_ _)); refine blk_far ?_ NB236_259.out _; (with_reducible repeat (first | refine blk_drewN ?_ _ | refine blk_drew ?_ | refine blk_alloc ?_ _)); refine blk_far ?_ NB236_259.out _; (with_reducible repeat (first | refine blk_drewN ?_ _ | refine blk_drew ?_ | refine blk_alloc ?_ _)); exact BK236.out) hb); have n9_ := Aside0.mk (blk_below (g := gb259) (o := .cells #[.int .i16 t253, .slice Ao136 t254.length co136] 57 (0, 0)) (by (with_reducible repeat (first | refine blk_drewN ?_ _ | refine blk_drew ?_ | refine blk_alloc ?_ _)); refine blk_put (cs := #[.int .i16 t253, .slice none 0 0]) ?_ 1 _ rfl; (with_reducible repeat (first | refine blk_drewN ?_ _ | refine blk_drew ?_ | refine blk_alloc ?_ _)); refine blk_put (cs := #[.int .i16 0, .slice none 0 0]) ?_ 0 _ rfl; (with_reducible repeat (first | refine blk_drewN ?_ _ | refine blk_drew ?_ | refine blk_alloc ?_ _)); exact BK259.out) hb); have n10_ := Aside0.mk (below_step (by repeat (first | (with_reducible first | exact HB.out | apply below_alloc | apply pw_below_drewN | apply below_drew1 | refine below_set ?_ GE212.out | refine below_set ?_ GE224.out | refine below_set ?_ GE229.out | refine below_set ?_ GE236.out | refine below_set ?_ GE259.out) | exact HB.out)) hb); clear HO_225001; clear HO_230001; clear HO_237001; clear HO252; clear HO256; clear BK212; clear BK224; clear BK229; clear BK236; clear BK259; clear HB; have HO_225001 := n0_; have HO_230001 := n1_; have HO_237001 := n2_; have HO252 := n3_; have HO256 := n4_; have BK212 := n5_; have BK224 := n6_; have BK229 := n7_; have BK236 := n8_; have BK259 := n9_; have HB := n10_; clear n0_ n1_ n2_ n3_ n4_ n5_ n6_ n7_ n8_ n9_ n10_; (try clear hb); (try clear hb2); (try clear hk); (try clear hi)))
                          go_meet
                          case rel => exact ⟨_, (true), (by first | rfl | (simp; done) | (simp [*]; done)), H', ⟨by have := HJ12.out; have := HJ70.out; first | omega | exact Nat.le_refl _⟩, ⟨by (try simp only [hl230001_70]); (with_reducible repeat (first | apply Kd.R_alloc | apply Kd.R_drewN | apply Kd.R_drew)); exact Kd.R_mono HO_225001.out (fun _ hk => ⟨hk.1.1.1, ⟨hk.1.1.2, hk.2⟩⟩)⟩, ⟨by (try simp only [hl230001_70]); (with_reducible repeat (first | apply Kd.R_alloc | apply Kd.R_drewN | apply Kd.R_drew)); exact Kd.R_mono HO_230001.out (fun _ hk => ⟨hk.1.1.1, ⟨hk.1.1.2, hk.2⟩⟩)⟩, ⟨by (try simp only [hl230001_70]); (with_reducible repeat (first | apply Kd.R_alloc | apply Kd.R_drewN | apply Kd.R_drew)); exact Kd.R_mono HO_237001.out (fun _ hk => ⟨hk.1.1.1, ⟨hk.1.1.2, hk.2⟩⟩)⟩, ⟨by (try simp only [hl230001_70]); (with_reducible repeat (first | apply Kd.R_alloc | apply Kd.R_drewN | apply Kd.R_drew)); exact Kd.R_mono HO256.out (fun _ hk => ⟨hk.1.1.1.2, ⟨hk.1.1.2, hk.1.2⟩⟩)⟩, ⟨by (try simp only [hl230001_70]); (with_reducible repeat (first | refine blk_drewN ?_ _ | refine blk_drew ?_ | refine blk_alloc ?_ _)); exact BK212.out⟩, ⟨by (try simp only [hl230001_70]); (with_reducible repeat (first | refine blk_drewN ?_ _ | refine blk_drew ?_ | refine blk_alloc ?_ _)); exact BK224.out⟩, ⟨by (try simp only [hl230001_70]); (with_reducible repeat (first | refine blk_drewN ?_ _ | refine blk_drew ?_ | refine blk_alloc ?_ _)); exact BK229.out⟩, ⟨by (try simp only [hl230001_70]); (with_reducible repeat (first | refine blk_drewN ?_ _ | refine blk_drew ?_ | refine blk_alloc ?_ _)); exact BK236.out⟩, ⟨by (try simp only [hl230001_70]); (with_reducible repeat (first | refine blk_drewN ?_ _ | refine blk_drew ?_ | refine blk_alloc ?_ _)); exact BK259.out⟩, ⟨by repeat (first | (with_reducible first | exact HB.out | apply below_alloc | apply pw_below_drewN | apply below_drew1 | refine below_set ?_ GE212.out | refine below_set ?_ GE224.out | refine below_set ?_ GE229.out | refine below_set ?_ GE236.out | refine below_set ?_ GE259.out) | exact HB.out)⟩⟩
                      case rest =>
                        as_aux_lemma =>
                        clear HC116
                        try clear c1
                        try clear c2
                        try clear p2
                        try clear c3
                        try clear c4
                        try clear c5
                        try clear c5b0
                        try clear c6
                        try clear c7
                        try clear c8
                        try clear c9
                        try clear c10
                        try clear c11
                        try clear c12
                        try clear c13
                        try clear c14
                        try clear c15
                        try clear c16
                        try clear c22
                        try clear c28
                        try clear c29
                        try clear c32
                        try clear c34
                        try clear c35
                        try clear c36
                        try clear c37
                        try clear c38
                        try clear c40
                        try clear c41
                        try clear c41b0
                        try clear c41b1
                        try clear c42
                        try clear c43
                        try clear c44
                        try clear c46
                        try clear c47
                        try clear c50
                        try clear c51
                        try clear c52
                        try clear c54
                        try clear c55
                        try clear c58
                        try clear c59
                        try clear c60
                        try clear c62
                        try clear c63
                        try clear c66
                        try clear c69
                        try clear c76
                        try clear c77
                        try clear c78
                        try clear c81
                        try clear c81b0
                        try clear c83
                        try clear c84
                        try clear c84b0
                        try clear c84b1
                        try clear c85
                        try clear c86
                        try clear c87
                        try clear c89
                        try clear c90
                        try clear c93
                        try clear c94
                        try clear c95
                        try clear c97
                        try clear c98
                        try clear c101
                        try clear c102
                        try clear c103
                        try clear c105
                        try clear c106
                        try clear c109
                        try clear c112
                        try clear c112b0
                        try clear c113
                        try clear c113b0
                        try clear c113b1
                        try clear c117
                        try clear c118
                        try clear c119
                        try clear c124
                        try clear c125
                        try clear c131
                        try clear c132
                        try clear c133
                        try clear c134
                        try clear c138
                        try clear c139
                        try clear c139b0
                        try clear c139b1
                        try clear c140
                        try clear c141
                        try clear c142
                        try clear c143
                        try clear c145
                        try clear c146
                        try clear c147
                        try clear c150
                        try clear c151
                        try clear c152
                        try clear c153
                        try clear c155
                        try clear c156
                        try clear c157
                        try clear c160
                        try clear c161
                        try clear c162
                        try clear c163
                        try clear c165
                        try clear c166
                        try clear c167
                        try clear hcz104_0
                        try clear hcz104_1
                        try clear hcz107_0
                        try clear hcz107_1
                        try clear hcz120_0
                        try clear hcz120_1
                        try clear hcz122_0
                        try clear hcz122_1
                        try clear hcz126_0
                        try clear hcz126_1
                        try clear hcz135_0
                        try clear hcz135_1
                        try clear hcz144_0
                        try clear hcz144_1
                        try clear hcz148_0
                        try clear hcz148_1
                        try clear hcz154_0
                        try clear hcz154_1
                        try clear hcz158_0
                        try clear hcz158_1
                        try clear hcz15_0
                        try clear hcz15_1
                        try clear hcz164_0
                        try clear hcz164_1
                        try clear hcz168_0
                        try clear hcz168_1
                        try clear hcz17_0
                        try clear hcz17_1
                        try clear hcz23_0
                        try clear hcz23_1
                        try clear hcz25_0
                        try clear hcz25_1
                        try clear hcz30_0
                        try clear hcz30_1
                        try clear hcz37_0
                        try clear hcz37_1
                        try clear hcz45_0
                        try clear hcz45_1
                        try clear hcz48_0
                        try clear hcz48_1
                        try clear hcz53_0
                        try clear hcz53_1
                        try clear hcz56_0
                        try clear hcz56_1
                        try clear hcz61_0
                        try clear hcz61_1
                        try clear hcz64_0
                        try clear hcz64_1
                        try clear hcz79_0
                        try clear hcz79_1
                        try clear hcz7_0
                        try clear hcz7_1
                        try clear hcz88_0
                        try clear hcz88_1
                        try clear hcz91_0
                        try clear hcz91_1
                        try clear hcz96_0
                        try clear hcz96_1
                        try clear hcz99_0
                        try clear hcz99_1
                        try clear hfz104_0
                        try clear hfz104_1
                        try clear hfz107_0
                        try clear hfz107_1
                        try clear hfz120_0
                        try clear hfz120_1
                        try clear hfz122_0
                        try clear hfz122_1
                        try clear hfz126_0
                        try clear hfz126_1
                        try clear hfz135_0
                        try clear hfz135_1
                        try clear hfz144_0
                        try clear hfz144_1
                        try clear hfz148_0
                        try clear hfz148_1
                        try clear hfz154_0
                        try clear hfz154_1
                        try clear hfz158_0
                        try clear hfz158_1
                        try clear hfz15_0
                        try clear hfz15_1
                        try clear hfz164_0
                        try clear hfz164_1
                        try clear hfz168_0
                        try clear hfz168_1
                        try clear hfz17_0
                        try clear hfz17_1
                        try clear hfz23_0
                        try clear hfz23_1
                        try clear hfz25_0
                        try clear hfz25_1
                        try clear hfz30_0
                        try clear hfz30_1
                        try clear hfz37_0
                        try clear hfz37_1
                        try clear hfz45_0
                        try clear hfz45_1
                        try clear hfz48_0
                        try clear hfz48_1
                        try clear hfz53_0
                        try clear hfz53_1
                        try clear hfz56_0
                        try clear hfz56_1
                        try clear hfz61_0
                        try clear hfz61_1
                        try clear hfz64_0
                        try clear hfz64_1
                        try clear hfz79_0
                        try clear hfz79_1
                        try clear hfz7_0
                        try clear hfz7_1
                        try clear hfz88_0
                        try clear hfz88_1
                        try clear hfz91_0
                        try clear hfz91_1
                        try clear hfz96_0
                        try clear hfz96_1
                        try clear hfz99_0
                        try clear hfz99_1
                        try clear p2
                        obtain ⟨kq, x118_115, rfl, HA, HJ115, HO_225001, HO_230001, HO_237001, HO_260001, BK212, BK224, BK229, BK236, BK259, HB⟩ := hcut
                        have hl237001_115 := (Kd.R_reads' HO_237001.out).1
                        rw [hl237001_115] at HO_237001
                        (try simp only [hl237001_115])
                        (try simp only [hl237001_115] at BK212)
                        (try simp only [hl237001_115] at BK224)
                        (try simp only [hl237001_115] at BK229)
                        (try simp only [hl237001_115] at BK236)
                        (try simp only [hl237001_115] at BK259)
                        (try simp only [hl237001_115] at HO_225001)
                        (try simp only [hl237001_115] at HO_230001)
                        (try simp only [hl237001_115] at HO_260001)
                        cases kq with
                        | zero => exact absurd HA.out (by simp [laws_FnExactFrogTo.j2])
                        | succ kj115 =>
                          have H := HA.out
                          clear HA
                          simp only [laws_FnExactFrogTo.j2] at H
                          by_cases c170 : x118_115 = true
                          · subst c170
                            have H1 : (none) = some r := by rw [if_pos rfl] at H; exact H
                            clear H
                            have H := H1
                            clear H1
                            exact absurd H (by simp)
                          · replace c170 := Bool.eq_false_iff.mpr c170
                            subst c170
                            have H1 : ((laws_heldFabric.f kj115 t230 t247 1).bind fun t261 => (if t261 < 0 then (none) else (if t261 = t246 then (some true) else (none)))) = some r := by rw [if_neg (show ¬ (false = true) by decide)] at H; exact H
                            clear H
                            have H := H1
                            clear H1
                            replace H := Option.bind_eq_some_iff.mp H
                            obtain ⟨t261, A1710, H⟩ := H
                            replace H : (if t261 < 0 then (none) else (if t261 = t246 then (some true) else (none))) = some r := H
                            have A171 := Aside0.mk A1710
                            clear A1710
                            by_cases c172 : t261 < 0
                            · rw [if_pos c172] at H
                              exact absurd H (by simp)
                            · rw [if_neg c172] at H
                              have c172b0 : decide (t261 < 0) = false := decide_eq_false c172
                              clear c172
                              by_cases c173 : t261 = t246
                              · rw [if_pos c173] at H
                                have c173b0 : (t261 == t246) = true := beq_iff_eq.mpr c173
                                have c173b1 : (t261 != t246) = false := bne_eq_false_iff_eq.mpr c173
                                clear c173
                                obtain rfl := Option.some.inj H
                                have hnb174 := NB236_212.out
                                have hnc174 := NB212_236.out
                                have hnb175 := NB236_224.out
                                have hnc175 := NB224_236.out
                                have hnb176 := NB236_229.out
                                have hnc176 := NB229_236.out
                                have hnb177 := NB236_259.out
                                have hnc177 := NB259_236.out
                                have hcz178_0 : wc.cell? ⟨gb236, 0, none⟩ = some (.int .i16 t230) := (blk_cell BK236.out 0).trans rfl
                                have hcz178_1 : wc.cell? ⟨gb236, 1, none⟩ = some (.slice Ao38 t247.length co38) := (blk_cell BK236.out 1).trans rfl
                                have hfz178_0 := blk_frozen BK236.out 0
                                have hfz178_1 := blk_frozen BK236.out 1
                                go_wp2_with (first | ((with_reducible refine gate_callee (f := 38) rfl ?_); refine goesL_ (some 121) rfl rfl Try.func38 (by kernel_rfl) rfl #[.agg #[.int .i16 t230, .slice Ao38 t247.length co38], .int .i64 1] rfl (by (try simp only [List.map_toArray, List.map_cons, List.map_nil]); first | done | rfl | (simp only [List.length_drop, List.length_take]; rfl)) ?_; (with_reducible refine (laws_heldFabric.calls kj115 t230 _ _ t247 1 t261 _ ?side1 ?side2 A171.out).mono ?_); (case side1 => repeat (first | exact (Kd.R_reads' HO_237001.out).2.2 | (with_reducible refine Kd.C_alloc ?_ _) | (with_reducible refine Kd.C_drewN ?_ _) | (with_reducible refine Kd.C_drew ?_))); (case side2 => exact (Kd.R_reads' HO_237001.out).2.1); rintro e w179 ⟨rfl, hb⟩; refine ⟨_, rfl, ?_⟩; have n0_ := Aside0.mk (Kd.R_below (by (with_reducible repeat (first | apply Kd.R_alloc | apply Kd.R_drewN | apply Kd.R_drew)); exact HO_225001.out) hb); have n1_ := Aside0.mk (Kd.R_below (by (with_reducible repeat (first | apply Kd.R_alloc | apply Kd.R_drewN | apply Kd.R_drew)); exact HO_230001.out) hb); have n2_ := Aside0.mk (Kd.R_below (by (with_reducible repeat (first | apply Kd.R_alloc | apply Kd.R_drewN | apply Kd.R_drew)); exact HO_237001.out) hb); have n3_ := Aside0.mk (Kd.R_below (by (with_reducible repeat (first | apply Kd.R_alloc | apply Kd.R_drewN | apply Kd.R_drew)); exact HO_260001.out) hb); have n4_ := Aside0.mk (blk_below (g := gb212) (o := .cells #[.int .i16 a0_0, .slice A0_1 l0_1.length c0_1] 55 (0, 0)) (by (with_reducible repeat (first | refine blk_drewN ?_ _ | refine blk_drew ?_ | refine blk_alloc ?_ _)); exact BK212.out) hb); have n5_ := Aside0.mk (blk_below (g := gb224) (o := .cells #[.int .i16 t218, .slice Ao24 t219.length co24] 57 (0, 0)) (by (with_reducible repeat (first | refine blk_drewN ?_ _ | refine blk_drew ?_ | refine blk_alloc ?_ _)); exact BK224.out) hb); have n6_ := Aside0.mk (blk_below (g := gb229) (o := .cells #[.int .i16 t225, .slice Ao31 t244.length co31] 57 (0, 0)) (by (with_reducible repeat (first | refine blk_drewN ?_ _ | refine blk_drew ?_ | refine blk_alloc ?_ _)); exact BK229.out) hb); have n7_ := Aside0.mk (blk_below (g := gb236) (o := .cells #[.int .i16 t230, .slice Ao38 t247.length co38] 57 (0, 0)) (by (with_reducible repeat (first | refine blk_drewN ?_ _ | refine blk_drew ?_ | refine blk_alloc ?_ _)); exact BK236.out) hb); have n8_ := Aside0.mk (blk_below (g := gb259) (o := .cells #[.int .i16 t253, .slice Ao136 t254.length co136] 57 (0, 0)) (by (with_reducible repeat (first | refine blk_drewN ?_ _ | refine blk_drew ?_ | refine blk_alloc ?_ _)); exact BK259.out) hb); have n9_ := Aside0.mk (below_step (by repeat (first | (with_reducible first | exact HB.out | apply below_alloc | apply pw_below_drewN | apply below_drew1 | refine below_set ?_ GE212.out | refine below_set ?_ GE224.out | refine below_set ?_ GE229.out | refine below_set ?_ GE236.out | refine below_set ?_ GE259.out) | exact HB.out)) hb); clear HO_225001; clear HO_230001; clear HO_237001; clear HO_260001; clear BK212; clear BK224; clear BK229; clear BK236; clear BK259; clear HB; have HO_225001 := n0_; have HO_230001 := n1_; have HO_237001 := n2_; have HO_260001 := n3_; have BK212 := n4_; have BK224 := n5_; have BK229 := n6_; have BK236 := n7_; have BK259 := n8_; have HB := n9_; clear n0_ n1_ n2_ n3_ n4_ n5_ n6_ n7_ n8_ n9_; (try clear hb); (try clear hb2); (try clear hk); (try clear hi)))
                                go_ret
                                exact ⟨by first | rfl | (simp [errW_none, errW_some] <;> rfl) | (simp [*, errW_none, errW_some] <;> rfl), by repeat (first | (with_reducible first | exact HB.out | apply below_alloc | apply pw_below_drewN | apply below_drew1 | refine below_set ?_ GE212.out | refine below_set ?_ GE224.out | refine below_set ?_ GE229.out | refine below_set ?_ GE236.out | refine below_set ?_ GE259.out) | exact HB.out)⟩
                              · rw [if_neg c173] at H
                                exact absurd H (by simp)
                    · rw [if_neg c113] at H
                      exact absurd H (by simp)
          · replace c69 := Bool.eq_false_iff.mpr c69
            subst c69
            have H1 : (none) = some r := by rw [if_neg (show ¬ (false = true) by decide)] at H; exact H
            clear H
            have H := H1
            clear H1
            exact absurd H (by simp)

/-- THE ONE PURE STATEMENT of laws_FnExactFrogTo: yours. -/
def laws_FnExactFrogTo.Pure : Prop := ∀ (a0_0 : Int) (l0_1 : List ByteArray) (a1 : Int) (a2 : Int), (Lit.int .i16 a0_0).wf = true → (l0_1.length * 16 ≤ 140737488351232 ∧ ∀ x_ ∈ l0_1, x_.size ≤ 140737488351232) → (Lit.int .i64 a1).wf = true → (Lit.int .i64 a2).wf = true → ∃ k, laws_FnExactFrogTo.f k a0_0 l0_1 a1 a2 = some true
theorem laws_FnExactFrogTo.walk (P : laws_FnExactFrogTo.Pure) (a0_0 : Int) (A0_1 : Option Addr) (c0_1 : Nat) (l0_1 : List ByteArray) (a1 : Int) (a2 : Int) (w : World) (hr0_1 : Kd.C Kd.string w A0_1 l0_1.length l0_1) (hc0_1 : l0_1.length ≤ c0_1) (g0_0 : (Lit.int .i16 a0_0).wf = true) (g0_1 : (l0_1.length * 16 ≤ 140737488351232 ∧ ∀ x_ ∈ l0_1, x_.size ≤ 140737488351232)) (g1 : (Lit.int .i64 a1).wf = true) (g2 : (Lit.int .i64 a2).wf = true) :
    Calls Try.prog 11 #[.agg #[.int .i16 a0_0, .slice A0_1 l0_1.length c0_1], .int .i64 a1, .int .i64 a2] w fun e w' => e = .returned (.bool true) ∧ Below w.heap.size w w' := by
  obtain ⟨k, h⟩ := P a0_0 l0_1 a1 a2 g0_0 g0_1 g1 g2
  refine (laws_FnExactFrogTo.calls k a0_0 A0_1 c0_1 l0_1 a1 a2 true w hr0_1 hc0_1 h).mono ?_
  rintro e w' ⟨rfl, hd⟩
  exact ⟨rfl, hd⟩

end Go.Proofs.Ytfkckobfpfkbjaa.XFnExactFrogTo
