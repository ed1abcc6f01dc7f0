/- The functions that the law FnExactMirrorFabric reaches: each as a Lean function, and that its call does what that function says; no conditions. -/
import Derived.Test.YtfkckobfpfkbjaaXFnExactMirrorFabricx0
import Derived.Test.YtfkckobfpfkbjaaXFnExactMirrorFabricx1
import Derived.Test.YtfkckobfpfkbjaaXFnExactMirrorFabricx2
import Derived.Test.YtfkckobfpfkbjaaXFnExactMirrorFabricx3
import Derived.Test.YtfkckobfpfkbjaaXFnExactMirrorFabricx4
namespace Go.Proofs.Ytfkckobfpfkbjaa.XFnExactMirrorFabric
open Go.RowKit Go.Proofs.YtfkckobfpfkbjaaW.PrintWords Go.Proofs.YtfkckobfpfkbjaaW.PrintLast Go.Proofs.YtfkckobfpfkbjaaW.PrintMore
attribute [local go_sem] max2_int min2_int max_two min_two max_three min_three max_four min_four   -- for this text's walks alone
set_option linter.unusedVariables false
set_option linter.unusedSimpArgs false

/-! ### laws_FnExactMirrorFabric: function 7 -/
mutual
def laws_FnExactMirrorFabric.j0 : Nat → Int → Int → Bool → Int → List ByteArray → Int → List ByteArray → Int → List ByteArray → Int → List ByteArray → Option (Bool)
  | 0, _, _, _, _, _, _, _, _, _, _, _ => none
  | k + 1, x5, x8, x40, x175000, x175001, x186000, x186001, x191000, x191001, x197000, x197001 => if x40 = true then (none) else ((laws_toFabric.f k x175000 x175001).bind fun bt198 => ((laws_eqFabric.f k x191000 x191001 bt198.1 bt198.2).bind fun t202 => (if t202 = true then ((laws_markFabric.f k x191000 x191001 1).bind fun bt203 => (if bt203.1 < 0 then (laws_FnExactMirrorFabric.j1 k x5 true x175000 x175001 x186000 x186001 x197000 x197001) else ((laws_eqFabric.f k x197000 x197001 x186000 x186001).bind fun t205 => (if t205 = true then (laws_FnExactMirrorFabric.j1 k x5 (x8 != x5) x175000 x175001 x186000 x186001 x197000 x197001) else (laws_FnExactMirrorFabric.j1 k x5 true x175000 x175001 x186000 x186001 x197000 x197001))))) else (none))))
def laws_FnExactMirrorFabric.j1 : Nat → Int → Bool → Int → List ByteArray → Int → List ByteArray → Int → List ByteArray → Option (Bool)
  | 0, _, _, _, _, _, _, _, _ => none
  | k + 1, x5, x61, x175000, x175001, x186000, x186001, x197000, x197001 => if x61 = true then (none) else ((laws_markFabric.f k x197000 x197001 1).bind fun bt206 => ((laws_heldFabric.f k x197000 bt206.2 1).bind fun t208 => (if t208 < 0 then (none) else (if t208 = bt206.1 then ((laws_toFabric.f k x175000 x175001).bind fun bt209 => ((impl_MirrorFabric.f k bt209.1 bt209.2).bind fun bt213 => ((laws_eqFabric.f k bt213.1 bt213.2.1 x186000 x186001).bind fun t219 => (if t219 = true then (laws_FnExactMirrorFabric.j2 k bt206.1 (bt213.2.2 != x5) x197000 bt206.2) else (laws_FnExactMirrorFabric.j2 k bt206.1 true x197000 bt206.2))))) else (none)))))
def laws_FnExactMirrorFabric.j2 : Nat → Int → Bool → Int → List ByteArray → Option (Bool)
  | 0, _, _, _, _ => none
  | k + 1, x10, x87, x197000, x197001 => if x87 = true then (none) else ((laws_heldFabric.f k x197000 x197001 1).bind fun t220 => (if t220 < 0 then (none) else (if t220 = x10 then (some true) else (none))))
end
def laws_FnExactMirrorFabric.f (k : Nat) (a0_0 : Int) (l0_1 : List ByteArray) : Option (Bool) := (laws_szFabric.f k a0_0 l0_1 1048576).bind fun t175 => (if t175 < 0 then (some true) else ((laws_toFabric.f k a0_0 l0_1).bind fun bt176 => ((spec_MirrorFabric.f k bt176.1 bt176.2).bind fun bt180 => ((laws_toFabric.f k a0_0 l0_1).bind fun bt186 => ((impl_MirrorFabric.f k bt186.1 bt186.2).bind fun bt191 => ((laws_eqFabric.f k bt191.1 bt191.2.1 bt180.1 bt180.2.1).bind fun t197 => (if t197 = true then (laws_FnExactMirrorFabric.j0 k bt180.2.2 bt191.2.2 (bt191.2.2 != bt180.2.2) a0_0 l0_1 bt180.1 bt180.2.1 bt186.1 bt186.2 bt191.1 bt191.2.1) else (laws_FnExactMirrorFabric.j0 k bt180.2.2 bt191.2.2 true a0_0 l0_1 bt180.1 bt180.2.1 bt186.1 bt186.2 bt191.1 bt191.2.1))))))))
theorem laws_FnExactMirrorFabric.mono_l : ∀ k, (∀ y0 y1 y2 y3 y4 y5 y6 y7 y8 y9 y10, LeO (laws_FnExactMirrorFabric.j0 k y0 y1 y2 y3 y4 y5 y6 y7 y8 y9 y10) (laws_FnExactMirrorFabric.j0 (k + 1) y0 y1 y2 y3 y4 y5 y6 y7 y8 y9 y10)) ∧ (∀ y0 y1 y2 y3 y4 y5 y6 y7, LeO (laws_FnExactMirrorFabric.j1 k y0 y1 y2 y3 y4 y5 y6 y7) (laws_FnExactMirrorFabric.j1 (k + 1) y0 y1 y2 y3 y4 y5 y6 y7)) ∧ (∀ y0 y1 y2 y3, LeO (laws_FnExactMirrorFabric.j2 k y0 y1 y2 y3) (laws_FnExactMirrorFabric.j2 (k + 1) y0 y1 y2 y3))
  | 0 => ⟨fun _ _ _ _ _ _ _ _ _ _ _ r h => by simp [laws_FnExactMirrorFabric.j0] at h, fun _ _ _ _ _ _ _ _ r h => by simp [laws_FnExactMirrorFabric.j1] at h, fun _ _ _ _ r h => by simp [laws_FnExactMirrorFabric.j2] at h⟩
  | k + 1 => by
    obtain ⟨ih0, ih1, ih2⟩ := laws_FnExactMirrorFabric.mono_l k
    refine ⟨?_, ?_, ?_⟩
    · intro y0 y1 y2 y3 y4 y5 y6 y7 y8 y9 y10
      unfold laws_FnExactMirrorFabric.j0
      repeat' first
      | (with_reducible exact ih0 _ _ _ _ _ _ _ _ _ _ _)
      | (with_reducible exact ih1 _ _ _ _ _ _ _ _)
      | (with_reducible exact ih2 _ _ _ _)
      | (with_reducible exact impl_MirrorFabric.mono _ _ _)
      | (with_reducible exact laws_eqFabric.mono _ _ _ _ _)
      | (with_reducible exact laws_heldFabric.mono _ _ _ _)
      | (with_reducible exact laws_markFabric.mono _ _ _ _)
      | (with_reducible exact laws_szFabric.mono _ _ _ _)
      | (with_reducible exact laws_toFabric.mono _ _ _)
      | (with_reducible exact spec_MirrorFabric.mono _ _ _)
      | (with_reducible exact LeO.refl _)
      | (with_reducible exact LeO.none _)
      | (with_reducible refine LeO.ite ?_ ?_)
      | (with_reducible refine LeO.bind ?_ (fun _ => ?_))
      | exact ih0 _ _ _ _ _ _ _ _ _ _ _
      | exact ih1 _ _ _ _ _ _ _ _
      | exact ih2 _ _ _ _
      | exact impl_MirrorFabric.mono _ _ _
      | exact laws_eqFabric.mono _ _ _ _ _
      | exact laws_heldFabric.mono _ _ _ _
      | exact laws_markFabric.mono _ _ _ _
      | exact laws_szFabric.mono _ _ _ _
      | exact laws_toFabric.mono _ _ _
      | exact spec_MirrorFabric.mono _ _ _
      | exact LeO.none _
      | refine LeO.ite ?_ ?_
      | refine LeO.bind ?_ (fun _ => ?_)
    · intro y0 y1 y2 y3 y4 y5 y6 y7
      unfold laws_FnExactMirrorFabric.j1
      repeat' first
      | (with_reducible exact ih0 _ _ _ _ _ _ _ _ _ _ _)
      | (with_reducible exact ih1 _ _ _ _ _ _ _ _)
      | (with_reducible exact ih2 _ _ _ _)
      | (with_reducible exact impl_MirrorFabric.mono _ _ _)
      | (with_reducible exact laws_eqFabric.mono _ _ _ _ _)
      | (with_reducible exact laws_heldFabric.mono _ _ _ _)
      | (with_reducible exact laws_markFabric.mono _ _ _ _)
      | (with_reducible exact laws_szFabric.mono _ _ _ _)
      | (with_reducible exact laws_toFabric.mono _ _ _)
      | (with_reducible exact spec_MirrorFabric.mono _ _ _)
      | (with_reducible exact LeO.refl _)
      | (with_reducible exact LeO.none _)
      | (with_reducible refine LeO.ite ?_ ?_)
      | (with_reducible refine LeO.bind ?_ (fun _ => ?_))
      | exact ih0 _ _ _ _ _ _ _ _ _ _ _
      | exact ih1 _ _ _ _ _ _ _ _
      | exact ih2 _ _ _ _
      | exact impl_MirrorFabric.mono _ _ _
      | exact laws_eqFabric.mono _ _ _ _ _
      | exact laws_heldFabric.mono _ _ _ _
      | exact laws_markFabric.mono _ _ _ _
      | exact laws_szFabric.mono _ _ _ _
      | exact laws_toFabric.mono _ _ _
      | exact spec_MirrorFabric.mono _ _ _
      | exact LeO.none _
      | refine LeO.ite ?_ ?_
      | refine LeO.bind ?_ (fun _ => ?_)
    · intro y0 y1 y2 y3
      unfold laws_FnExactMirrorFabric.j2
      repeat' first
      | (with_reducible exact ih0 _ _ _ _ _ _ _ _ _ _ _)
      | (with_reducible exact ih1 _ _ _ _ _ _ _ _)
      | (with_reducible exact ih2 _ _ _ _)
      | (with_reducible exact impl_MirrorFabric.mono _ _ _)
      | (with_reducible exact laws_eqFabric.mono _ _ _ _ _)
      | (with_reducible exact laws_heldFabric.mono _ _ _ _)
      | (with_reducible exact laws_markFabric.mono _ _ _ _)
      | (with_reducible exact laws_szFabric.mono _ _ _ _)
      | (with_reducible exact laws_toFabric.mono _ _ _)
      | (with_reducible exact spec_MirrorFabric.mono _ _ _)
      | (with_reducible exact LeO.refl _)
      | (with_reducible exact LeO.none _)
      | (with_reducible refine LeO.ite ?_ ?_)
      | (with_reducible refine LeO.bind ?_ (fun _ => ?_))
      | exact ih0 _ _ _ _ _ _ _ _ _ _ _
      | exact ih1 _ _ _ _ _ _ _ _
      | exact ih2 _ _ _ _
      | exact impl_MirrorFabric.mono _ _ _
      | exact laws_eqFabric.mono _ _ _ _ _
      | exact laws_heldFabric.mono _ _ _ _
      | exact laws_markFabric.mono _ _ _ _
      | exact laws_szFabric.mono _ _ _ _
      | exact laws_toFabric.mono _ _ _
      | exact spec_MirrorFabric.mono _ _ _
      | exact LeO.none _
      | refine LeO.ite ?_ ?_
      | refine LeO.bind ?_ (fun _ => ?_)
theorem laws_FnExactMirrorFabric.mono : ∀ a0 a1 k, LeO (laws_FnExactMirrorFabric.f k a0 a1) (laws_FnExactMirrorFabric.f (k + 1) a0 a1) := by
  intro a0 a1 k
  obtain ⟨ih0, ih1, ih2⟩ := laws_FnExactMirrorFabric.mono_l k
  unfold laws_FnExactMirrorFabric.f
  repeat' first
      | (with_reducible exact ih0 _ _ _ _ _ _ _ _ _ _ _)
      | (with_reducible exact ih1 _ _ _ _ _ _ _ _)
      | (with_reducible exact ih2 _ _ _ _)
      | (with_reducible exact impl_MirrorFabric.mono _ _ _)
      | (with_reducible exact laws_eqFabric.mono _ _ _ _ _)
      | (with_reducible exact laws_heldFabric.mono _ _ _ _)
      | (with_reducible exact laws_markFabric.mono _ _ _ _)
      | (with_reducible exact laws_szFabric.mono _ _ _ _)
      | (with_reducible exact laws_toFabric.mono _ _ _)
      | (with_reducible exact spec_MirrorFabric.mono _ _ _)
      | (with_reducible exact LeO.refl _)
      | (with_reducible exact LeO.none _)
      | (with_reducible refine LeO.ite ?_ ?_)
      | (with_reducible refine LeO.bind ?_ (fun _ => ?_))
      | exact ih0 _ _ _ _ _ _ _ _ _ _ _
      | exact ih1 _ _ _ _ _ _ _ _
      | exact ih2 _ _ _ _
      | exact impl_MirrorFabric.mono _ _ _
      | exact laws_eqFabric.mono _ _ _ _ _
      | exact laws_heldFabric.mono _ _ _ _
      | exact laws_markFabric.mono _ _ _ _
      | exact laws_szFabric.mono _ _ _ _
      | exact laws_toFabric.mono _ _ _
      | exact spec_MirrorFabric.mono _ _ _
      | exact LeO.none _
      | refine LeO.ite ?_ ?_
      | refine LeO.bind ?_ (fun _ => ?_)
set_option maxHeartbeats 8000000 in
set_option maxRecDepth 100000 in
theorem laws_FnExactMirrorFabric.calls (k : Nat) (a0_0 : Int) (A0_1 : Option Addr) (c0_1 : Nat) (l0_1 : List ByteArray) (r : Bool) (w : World) (hr0_1 : Kd.C Kd.string w A0_1 l0_1.length l0_1) (hc0_1 : l0_1.length ≤ c0_1) (h : laws_FnExactMirrorFabric.f k a0_0 l0_1 = some r) :
    Calls Try.prog 7 #[.agg #[.int .i16 a0_0, .slice A0_1 l0_1.length c0_1]] w fun e w' => e = .returned (.bool r) ∧ Below w.heap.size w w' := by
  have hu55 := Try.underlying55
  have hu57 := Try.underlying57
  have HR0_1 := Aside0.mk hr0_1
  have HC0_1 := Aside0.mk hc0_1
  clear hr0_1 hc0_1
  have HB := Aside0.mk (Below.refl w.heap.size w)
  have H : ((laws_szFabric.f k a0_0 l0_1 1048576).bind fun t175 => (if t175 < 0 then (some true) else ((laws_toFabric.f k a0_0 l0_1).bind fun bt176 => ((spec_MirrorFabric.f k bt176.1 bt176.2).bind fun bt180 => ((laws_toFabric.f k a0_0 l0_1).bind fun bt186 => ((impl_MirrorFabric.f k bt186.1 bt186.2).bind fun bt191 => ((laws_eqFabric.f k bt191.1 bt191.2.1 bt180.1 bt180.2.1).bind fun t197 => (if t197 = true then (laws_FnExactMirrorFabric.j0 k bt180.2.2 bt191.2.2 (bt191.2.2 != bt180.2.2) a0_0 l0_1 bt180.1 bt180.2.1 bt186.1 bt186.2 bt191.1 bt191.2.1) else (laws_FnExactMirrorFabric.j0 k bt180.2.2 bt191.2.2 true a0_0 l0_1 bt180.1 bt180.2.1 bt186.1 bt186.2 bt191.1 bt191.2.1))))))))) = some r := h
  clear h
  replace H := Option.bind_eq_some_iff.mp H
  obtain ⟨t175, A20, H⟩ := H
  replace H : (if t175 < 0 then (some true) else ((laws_toFabric.f k a0_0 l0_1).bind fun bt176 => ((spec_MirrorFabric.f k bt176.1 bt176.2).bind fun bt180 => ((laws_toFabric.f k a0_0 l0_1).bind fun bt186 => ((impl_MirrorFabric.f k bt186.1 bt186.2).bind fun bt191 => ((laws_eqFabric.f k bt191.1 bt191.2.1 bt180.1 bt180.2.1).bind fun t197 => (if t197 = true then (laws_FnExactMirrorFabric.j0 k bt180.2.2 bt191.2.2 (bt191.2.2 != bt180.2.2) a0_0 l0_1 bt180.1 bt180.2.1 bt186.1 bt186.2 bt191.1 bt191.2.1) else (laws_FnExactMirrorFabric.j0 k bt180.2.2 bt191.2.2 true a0_0 l0_1 bt180.1 bt180.2.1 bt186.1 bt186.2 bt191.1 bt191.2.1)))))))) = some r := H
  have A2 := Aside0.mk A20
  clear A20
  by_cases c3 : t175 < 0
  · rw [if_pos c3] at H
    have c3b0 : decide (t175 < 0) = true := decide_eq_true c3
    clear c3
    obtain rfl := Option.some.inj H
    go_enter Try.func7, Try.ntmps7
    go_wp2_with (first | ((with_reducible refine gate_dst (N := 1) rfl ?_); refine box_event ?hg (N := 1) ?hd (cs := #[.int .i16 a0_0, .slice A0_1 l0_1.length c0_1]) (t := 55) ?hr ?_; (case hd => rfl); (case hg => rfl); (case hr => first | (go_simp; done) | (go_simp; rfl)); intro gb174 hg w4 hbox hb; have n0_ := Aside0.mk (below_step (by repeat (first | (with_reducible first | exact HB.out | apply below_alloc | apply pw_below_drewN | apply below_drew1) | exact HB.out)) hb); have n1_ := Aside0.mk (hbox); have n2_ := Aside0.mk ((by rw [hg]; exact (below_size (by repeat (first | (with_reducible first | exact HB.out | apply below_alloc | apply pw_below_drewN | apply below_drew1) | exact HB.out))) : w.heap.size ≤ gb174)); have n3_ := Aside0.mk ((by rw [hg]; exact (below_size (by repeat (first | (with_reducible first | exact HB.out | apply below_alloc | apply pw_below_drewN | apply below_drew1) | exact HB.out))) : w.heap.size ≤ gb174)); clear HB; have HB := n0_; have BK174 := n1_; have GW174 := n2_; have GE174 := n3_; clear n0_ n1_ n2_ n3_; clear hb hbox hg; have hcz5_0 : w4.cell? ⟨gb174, 0, none⟩ = some (.int .i16 a0_0) := (blk_cell BK174.out 0).trans rfl; have hcz5_1 : w4.cell? ⟨gb174, 1, none⟩ = some (.slice A0_1 l0_1.length c0_1) := (blk_cell BK174.out 1).trans rfl; have hfz5_0 := blk_frozen BK174.out 0; have hfz5_1 := blk_frozen BK174.out 1) | ((with_reducible refine gate_callee (f := 32) rfl ?_); refine goesL_ (some 16) rfl rfl Try.func32 (by kernel_rfl) rfl #[.agg #[.int .i16 a0_0, .slice A0_1 l0_1.length c0_1], .int .i64 1048576] rfl (by (try simp only [List.map_toArray, List.map_cons, List.map_nil]); first | done | rfl | (simp only [List.length_drop, List.length_take]; rfl)) ?_; (with_reducible refine (laws_szFabric.calls k a0_0 _ _ l0_1 1048576 t175 _ ?side1 ?side2 A2.out).mono ?_); (case side1 => repeat (first | exact (Kd.C_below HR0_1.out HB.out) | (with_reducible refine Kd.C_alloc ?_ _) | (with_reducible refine Kd.C_drewN ?_ _) | (with_reducible refine Kd.C_drew ?_))); (case side2 => exact HC0_1.out); rintro e w6 ⟨rfl, hb⟩; refine ⟨_, rfl, ?_⟩; have n0_ := Aside0.mk (blk_below (g := gb174) (o := .cells #[.int .i16 a0_0, .slice A0_1 l0_1.length c0_1] 55 (0, 0)) (by (with_reducible repeat (first | refine blk_drewN ?_ _ | refine blk_drew ?_ | refine blk_alloc ?_ _)); exact BK174.out) hb); have n1_ := Aside0.mk (below_step (by repeat (first | (with_reducible first | exact HB.out | apply below_alloc | apply pw_below_drewN | apply below_drew1 | refine below_set ?_ GE174.out) | exact HB.out)) hb); clear BK174; clear HB; have BK174 := n0_; have HB := n1_; clear n0_ n1_; (try clear hb); (try clear hb2); (try clear hk); (try clear hi)))
    go_ret
    exact ⟨by first | rfl | (simp [errW_none, errW_some] <;> rfl) | (simp [*, errW_none, errW_some] <;> rfl), by repeat (first | (with_reducible first | exact HB.out | apply below_alloc | apply pw_below_drewN | apply below_drew1 | refine below_set ?_ GE174.out) | exact HB.out)⟩
  · rw [if_neg c3] at H
    have c3b0 : decide (t175 < 0) = false := decide_eq_false c3
    clear c3
    replace H := Option.bind_eq_some_iff.mp H
    obtain ⟨⟨t176, t177⟩, A70, H⟩ := H
    replace H : ((spec_MirrorFabric.f k t176 t177).bind fun bt180 => ((laws_toFabric.f k a0_0 l0_1).bind fun bt186 => ((impl_MirrorFabric.f k bt186.1 bt186.2).bind fun bt191 => ((laws_eqFabric.f k bt191.1 bt191.2.1 bt180.1 bt180.2.1).bind fun t197 => (if t197 = true then (laws_FnExactMirrorFabric.j0 k bt180.2.2 bt191.2.2 (bt191.2.2 != bt180.2.2) a0_0 l0_1 bt180.1 bt180.2.1 bt186.1 bt186.2 bt191.1 bt191.2.1) else (laws_FnExactMirrorFabric.j0 k bt180.2.2 bt191.2.2 true a0_0 l0_1 bt180.1 bt180.2.1 bt186.1 bt186.2 bt191.1 bt191.2.1)))))) = some r := H
    have A7 := Aside0.mk A70
    clear A70
    replace H := Option.bind_eq_some_iff.mp H
    obtain ⟨⟨t180, t181, t184⟩, A80, H⟩ := H
    replace H : ((laws_toFabric.f k a0_0 l0_1).bind fun bt186 => ((impl_MirrorFabric.f k bt186.1 bt186.2).bind fun bt191 => ((laws_eqFabric.f k bt191.1 bt191.2.1 t180 t181).bind fun t197 => (if t197 = true then (laws_FnExactMirrorFabric.j0 k t184 bt191.2.2 (bt191.2.2 != t184) a0_0 l0_1 t180 t181 bt186.1 bt186.2 bt191.1 bt191.2.1) else (laws_FnExactMirrorFabric.j0 k t184 bt191.2.2 true a0_0 l0_1 t180 t181 bt186.1 bt186.2 bt191.1 bt191.2.1))))) = some r := H
    have A8 := Aside0.mk A80
    clear A80
    replace H := Option.bind_eq_some_iff.mp H
    obtain ⟨⟨t186, t187⟩, A90, H⟩ := H
    replace H : ((impl_MirrorFabric.f k t186 t187).bind fun bt191 => ((laws_eqFabric.f k bt191.1 bt191.2.1 t180 t181).bind fun t197 => (if t197 = true then (laws_FnExactMirrorFabric.j0 k t184 bt191.2.2 (bt191.2.2 != t184) a0_0 l0_1 t180 t181 t186 t187 bt191.1 bt191.2.1) else (laws_FnExactMirrorFabric.j0 k t184 bt191.2.2 true a0_0 l0_1 t180 t181 t186 t187 bt191.1 bt191.2.1)))) = some r := H
    have A9 := Aside0.mk A90
    clear A90
    replace H := Option.bind_eq_some_iff.mp H
    obtain ⟨⟨t191, t192, t195⟩, A100, H⟩ := H
    replace H : ((laws_eqFabric.f k t191 t192 t180 t181).bind fun t197 => (if t197 = true then (laws_FnExactMirrorFabric.j0 k t184 t195 (t195 != t184) a0_0 l0_1 t180 t181 t186 t187 t191 t192) else (laws_FnExactMirrorFabric.j0 k t184 t195 true a0_0 l0_1 t180 t181 t186 t187 t191 t192))) = some r := H
    have A10 := Aside0.mk A100
    clear A100
    have HC11 := Aside0.mk H
    clear H
    go_enter Try.func7, Try.ntmps7
    go_upto_region 8 with (first | ((with_reducible refine gate_dst (N := 1) rfl ?_); refine box_event ?hg (N := 1) ?hd (cs := #[.int .i16 a0_0, .slice A0_1 l0_1.length c0_1]) (t := 55) ?hr ?_; (case hd => rfl); (case hg => rfl); (case hr => first | (go_simp; done) | (go_simp; rfl)); intro gb174 hg w12 hbox hb; have n0_ := Aside0.mk (below_step (by repeat (first | (with_reducible first | exact HB.out | apply below_alloc | apply pw_below_drewN | apply below_drew1) | exact HB.out)) hb); have n1_ := Aside0.mk (hbox); have n2_ := Aside0.mk ((by rw [hg]; exact (below_size (by repeat (first | (with_reducible first | exact HB.out | apply below_alloc | apply pw_below_drewN | apply below_drew1) | exact HB.out))) : w.heap.size ≤ gb174)); have n3_ := Aside0.mk ((by rw [hg]; exact (below_size (by repeat (first | (with_reducible first | exact HB.out | apply below_alloc | apply pw_below_drewN | apply below_drew1) | exact HB.out))) : w.heap.size ≤ gb174)); clear HB; have HB := n0_; have BK174 := n1_; have GW174 := n2_; have GE174 := n3_; clear n0_ n1_ n2_ n3_; clear hb hbox hg; have hcz13_0 : w12.cell? ⟨gb174, 0, none⟩ = some (.int .i16 a0_0) := (blk_cell BK174.out 0).trans rfl; have hcz13_1 : w12.cell? ⟨gb174, 1, none⟩ = some (.slice A0_1 l0_1.length c0_1) := (blk_cell BK174.out 1).trans rfl; have hfz13_0 := blk_frozen BK174.out 0; have hfz13_1 := blk_frozen BK174.out 1) | ((with_reducible refine gate_callee (f := 32) rfl ?_); refine goesL_ (some 16) rfl rfl Try.func32 (by kernel_rfl) rfl #[.agg #[.int .i16 a0_0, .slice A0_1 l0_1.length c0_1], .int .i64 1048576] rfl (by (try simp only [List.map_toArray, List.map_cons, List.map_nil]); first | done | rfl | (simp only [List.length_drop, List.length_take]; rfl)) ?_; (with_reducible refine (laws_szFabric.calls k a0_0 _ _ l0_1 1048576 t175 _ ?side1 ?side2 A2.out).mono ?_); (case side1 => repeat (first | exact (Kd.C_below HR0_1.out HB.out) | (with_reducible refine Kd.C_alloc ?_ _) | (with_reducible refine Kd.C_drewN ?_ _) | (with_reducible refine Kd.C_drew ?_))); (case side2 => exact HC0_1.out); rintro e w14 ⟨rfl, hb⟩; refine ⟨_, rfl, ?_⟩; have n0_ := Aside0.mk (blk_below (g := gb174) (o := .cells #[.int .i16 a0_0, .slice A0_1 l0_1.length c0_1] 55 (0, 0)) (by (with_reducible repeat (first | refine blk_drewN ?_ _ | refine blk_drew ?_ | refine blk_alloc ?_ _)); exact BK174.out) hb); have n1_ := Aside0.mk (below_step (by repeat (first | (with_reducible first | exact HB.out | apply below_alloc | apply pw_below_drewN | apply below_drew1 | refine below_set ?_ GE174.out) | exact HB.out)) hb); clear BK174; clear HB; have BK174 := n0_; have HB := n1_; clear n0_ n1_; (try clear hb); (try clear hb2); (try clear hk); (try clear hi); have hcz15_0 : w14.cell? ⟨gb174, 0, none⟩ = some (.int .i16 a0_0) := (blk_cell BK174.out 0).trans rfl; have hcz15_1 : w14.cell? ⟨gb174, 1, none⟩ = some (.slice A0_1 l0_1.length c0_1) := (blk_cell BK174.out 1).trans rfl; have hfz15_0 := blk_frozen BK174.out 0; have hfz15_1 := blk_frozen BK174.out 1) | ((with_reducible refine gate_callee (f := 34) rfl ?_); refine goesL_ (some 21) rfl rfl Try.func34 (by kernel_rfl) rfl #[.agg #[.int .i16 a0_0, .slice A0_1 l0_1.length c0_1]] rfl (by (try simp only [List.map_toArray, List.map_cons, List.map_nil]); first | done | rfl | (simp only [List.length_drop, List.length_take]; rfl)) ?_; (with_reducible refine (laws_toFabric.calls k a0_0 _ _ l0_1 t176 t177 _ ?side1 ?side2 A7.out).mono ?_); (case side1 => repeat (first | exact (Kd.C_below HR0_1.out HB.out) | (with_reducible refine Kd.C_alloc ?_ _) | (with_reducible refine Kd.C_drewN ?_ _) | (with_reducible refine Kd.C_drew ?_))); (case side2 => exact HC0_1.out); rintro e w16 ⟨v178, rfl, ho0, hb⟩; refine ⟨_, rfl, ?_⟩; have n0_ := Aside0.mk (Kd.R_lower ho0 (below_size (by repeat (first | (with_reducible first | exact HB.out | apply below_alloc | apply pw_below_drewN | apply below_drew1 | refine below_set ?_ GE174.out) | exact HB.out)))); have n1_ := Aside0.mk (blk_below (g := gb174) (o := .cells #[.int .i16 a0_0, .slice A0_1 l0_1.length c0_1] 55 (0, 0)) (by (with_reducible repeat (first | refine blk_drewN ?_ _ | refine blk_drew ?_ | refine blk_alloc ?_ _)); exact BK174.out) hb); have n2_ := Aside0.mk (below_step (by repeat (first | (with_reducible first | exact HB.out | apply below_alloc | apply pw_below_drewN | apply below_drew1 | refine below_set ?_ GE174.out) | exact HB.out)) hb); clear BK174; clear HB; have HO179 := n0_; have BK174 := n1_; have HB := n2_; clear n0_ n1_ n2_; (try clear hb); (try clear hb2); (try clear hk); (try clear hi); (try clear ho0); obtain ⟨Ao17, co17, eo17⟩ := Kd.R_slice HO179.out; subst eo17) | ((with_reducible refine gate_callee (f := 33) rfl ?_); refine goesL_ (some 22) rfl rfl Try.func33 (by kernel_rfl) rfl #[.agg #[.int .i16 t176, .slice Ao17 t177.length co17]] rfl (by (try simp only [List.map_toArray, List.map_cons, List.map_nil]); first | done | rfl | (simp only [List.length_drop, List.length_take]; rfl)) ?_; (with_reducible refine (spec_MirrorFabric.calls k t176 _ _ t177 t180 t181 t184 _ ?side1 ?side2 A8.out).mono ?_); (case side1 => repeat (first | exact (Kd.R_reads' HO179.out).2.2 | (with_reducible refine Kd.C_alloc ?_ _) | (with_reducible refine Kd.C_drewN ?_ _) | (with_reducible refine Kd.C_drew ?_))); (case side2 => exact (Kd.R_reads' HO179.out).2.1); rintro e w18 ⟨v182, rfl, ho0, hb⟩; refine ⟨_, rfl, ?_⟩; have n0_ := Aside0.mk (Kd.R_elder' (by (with_reducible repeat (first | apply Kd.R_alloc | apply Kd.R_drewN | apply Kd.R_drew)); exact HO179.out) (Kd.R_base ho0) hb); have n1_ := Aside0.mk (Kd.R_lower (Kd.R_new' ho0 (Kd.R_lt (by (with_reducible repeat (first | apply Kd.R_alloc | apply Kd.R_drewN | apply Kd.R_drew)); exact HO179.out))) (below_size (by repeat (first | (with_reducible first | exact HB.out | apply below_alloc | apply pw_below_drewN | apply below_drew1 | refine below_set ?_ GE174.out) | exact HB.out)))); have n2_ := Aside0.mk (blk_below (g := gb174) (o := .cells #[.int .i16 a0_0, .slice A0_1 l0_1.length c0_1] 55 (0, 0)) (by (with_reducible repeat (first | refine blk_drewN ?_ _ | refine blk_drew ?_ | refine blk_alloc ?_ _)); exact BK174.out) hb); have n3_ := Aside0.mk (below_step (by repeat (first | (with_reducible first | exact HB.out | apply below_alloc | apply pw_below_drewN | apply below_drew1 | refine below_set ?_ GE174.out) | exact HB.out)) hb); clear HO179; clear BK174; clear HB; have HO179 := n0_; have HO183 := n1_; have BK174 := n2_; have HB := n3_; clear n0_ n1_ n2_ n3_; (try clear hb); (try clear hb2); (try clear hk); (try clear hi); (try clear ho0)) | ((with_reducible refine gate_dst (N := 4) rfl ?_); refine box_event ?hg (N := 4) ?hd (cs := #[.int .i16 0, .slice none 0 0]) (t := 57) ?hr ?_; (case hd => rfl); (case hg => rfl); (case hr => first | (go_simp; done) | (go_simp; rfl)); intro gb185 hg w19 hbox hb; have n0_ := Aside0.mk (Kd.R_below (by (with_reducible repeat (first | apply Kd.R_alloc | apply Kd.R_drewN | apply Kd.R_drew)); exact HO179.out) hb); have n1_ := Aside0.mk (Kd.R_below (by (with_reducible repeat (first | apply Kd.R_alloc | apply Kd.R_drewN | apply Kd.R_drew)); exact HO183.out) hb); have n2_ := Aside0.mk (blk_below (g := gb174) (o := .cells #[.int .i16 a0_0, .slice A0_1 l0_1.length c0_1] 55 (0, 0)) (by (with_reducible repeat (first | refine blk_drewN ?_ _ | refine blk_drew ?_ | refine blk_alloc ?_ _)); exact BK174.out) hb); have n3_ := Aside0.mk (below_step (by repeat (first | (with_reducible first | exact HB.out | apply below_alloc | apply pw_below_drewN | apply below_drew1 | refine below_set ?_ GE174.out) | exact HB.out)) hb); have n4_ := Aside0.mk (hbox); have n5_ := Aside0.mk ((by rw [hg]; exact (below_size (by repeat (first | (with_reducible first | exact HB.out | apply below_alloc | apply pw_below_drewN | apply below_drew1 | refine below_set ?_ GE174.out) | exact HB.out))) : w.heap.size ≤ gb185)); have n6_ := Aside0.mk ((by rw [hg]; exact (below_size (by repeat (first | (with_reducible first | exact HB.out | apply below_alloc | apply pw_below_drewN | apply below_drew1 | refine below_set ?_ GE174.out) | exact HB.out))) : w.heap.size ≤ gb185)); have n7_ := Aside0.mk ((by rw [hg]; exact Nat.ne_of_lt (blk_lt (g := gb174) (o := .cells #[.int .i16 a0_0, .slice A0_1 l0_1.length c0_1] 55 (0, 0)) (by (with_reducible repeat (first | refine blk_drewN ?_ _ | refine blk_drew ?_ | refine blk_alloc ?_ _)); exact BK174.out)) : gb174 ≠ gb185)); have n8_ := Aside0.mk ((by rw [hg]; exact Nat.ne_of_gt (blk_lt (g := gb174) (o := .cells #[.int .i16 a0_0, .slice A0_1 l0_1.length c0_1] 55 (0, 0)) (by (with_reducible repeat (first | refine blk_drewN ?_ _ | refine blk_drew ?_ | refine blk_alloc ?_ _)); exact BK174.out)) : gb185 ≠ gb174)); clear HO179; clear HO183; clear BK174; clear HB; have HO179 := n0_; have HO183 := n1_; have BK174 := n2_; have HB := n3_; have BK185 := n4_; have GW185 := n5_; have GE185 := n6_; have NB174_185 := n7_; have NB185_174 := n8_; clear n0_ n1_ n2_ n3_ n4_ n5_ n6_ n7_ n8_; clear hb hbox hg; have hnb20 := NB185_174.out; have hnc20 := NB174_185.out; have hcz21_0 : w19.cell? ⟨gb185, 0, none⟩ = some (.int .i16 0) := (blk_cell BK185.out 0).trans rfl; have hcz21_1 : w19.cell? ⟨gb185, 1, none⟩ = some (.slice none 0 0) := (blk_cell BK185.out 1).trans rfl; have hfz21_0 := blk_frozen BK185.out 0; have hfz21_1 := blk_frozen BK185.out 1; obtain ⟨Ao22, co22, eo22⟩ := Kd.R_slice HO183.out; subst eo22; have hcz23_0 : w19.cell? ⟨gb174, 0, none⟩ = some (.int .i16 a0_0) := (blk_cell BK174.out 0).trans rfl; have hcz23_1 : w19.cell? ⟨gb174, 1, none⟩ = some (.slice A0_1 l0_1.length c0_1) := (blk_cell BK174.out 1).trans rfl; have hfz23_0 := blk_frozen BK174.out 0; have hfz23_1 := blk_frozen BK174.out 1) | ((with_reducible refine gate_callee (f := 34) rfl ?_); refine goesL_ (some 26) rfl rfl Try.func34 (by kernel_rfl) rfl #[.agg #[.int .i16 a0_0, .slice A0_1 l0_1.length c0_1]] rfl (by (try simp only [List.map_toArray, List.map_cons, List.map_nil]); first | done | rfl | (simp only [List.length_drop, List.length_take]; rfl)) ?_; (with_reducible refine (laws_toFabric.calls k a0_0 _ _ l0_1 t186 t187 _ ?side1 ?side2 A9.out).mono ?_); (case side1 => exact Kd.C_below HR0_1.out (by repeat (first | (with_reducible first | exact HB.out | apply below_alloc | apply pw_below_drewN | apply below_drew1 | refine below_set ?_ GE174.out | refine below_set ?_ GE185.out) | exact HB.out))); (case side2 => exact HC0_1.out); rintro e w24 ⟨v188, rfl, ho0, hb⟩; refine ⟨_, rfl, ?_⟩; have n0_ := Aside0.mk (Kd.R_elder' (by (with_reducible repeat (first | apply Kd.R_alloc | apply Kd.R_drewN | apply Kd.R_drew)); exact (Kd.R_mono (Kd.R_far (p := ⟨gb185, 1, none⟩) (Kd.R_far (p := ⟨gb185, 0, none⟩) (Kd.R_types HO179.out BK185.out (by decide)) (fun _ hk => hk.2) (.int .i16 t180)) (fun _ hk => hk.2) (.slice Ao22 t181.length co22)) (fun _ h_ => h_.1))) (Kd.R_base ho0) hb); have n1_ := Aside0.mk (Kd.R_elder' (by (with_reducible repeat (first | apply Kd.R_alloc | apply Kd.R_drewN | apply Kd.R_drew)); exact (Kd.R_mono (Kd.R_far (p := ⟨gb185, 1, none⟩) (Kd.R_far (p := ⟨gb185, 0, none⟩) (Kd.R_types HO183.out BK185.out (by decide)) (fun _ hk => hk.2) (.int .i16 t180)) (fun _ hk => hk.2) (.slice Ao22 t181.length co22)) (fun _ h_ => h_.1))) (Kd.R_base ho0) hb); have n2_ := Aside0.mk (Kd.R_lower (Kd.R_new' (Kd.R_new' ho0 (Kd.R_lt (by (with_reducible repeat (first | apply Kd.R_alloc | apply Kd.R_drewN | apply Kd.R_drew)); exact (Kd.R_mono (Kd.R_far (p := ⟨gb185, 1, none⟩) (Kd.R_far (p := ⟨gb185, 0, none⟩) (Kd.R_types HO179.out BK185.out (by decide)) (fun _ hk => hk.2) (.int .i16 t180)) (fun _ hk => hk.2) (.slice Ao22 t181.length co22)) (fun _ h_ => h_.1))))) (Kd.R_lt (by (with_reducible repeat (first | apply Kd.R_alloc | apply Kd.R_drewN | apply Kd.R_drew)); exact (Kd.R_mono (Kd.R_far (p := ⟨gb185, 1, none⟩) (Kd.R_far (p := ⟨gb185, 0, none⟩) (Kd.R_types HO183.out BK185.out (by decide)) (fun _ hk => hk.2) (.int .i16 t180)) (fun _ hk => hk.2) (.slice Ao22 t181.length co22)) (fun _ h_ => h_.1))))) (below_size (by repeat (first | (with_reducible first | exact HB.out | apply below_alloc | apply pw_below_drewN | apply below_drew1 | refine below_set ?_ GE174.out | refine below_set ?_ GE185.out) | exact HB.out)))); have n3_ := Aside0.mk (blk_below (g := gb174) (o := .cells #[.int .i16 a0_0, .slice A0_1 l0_1.length c0_1] 55 (0, 0)) (by (with_reducible repeat (first | refine blk_drewN ?_ _ | refine blk_drew ?_ | refine blk_alloc ?_ _)); refine blk_far ?_ NB174_185.out _; (with_reducible repeat (first | refine blk_drewN ?_ _ | refine blk_drew ?_ | refine blk_alloc ?_ _)); refine blk_far ?_ NB174_185.out _; (with_reducible repeat (first | refine blk_drewN ?_ _ | refine blk_drew ?_ | refine blk_alloc ?_ _)); exact BK174.out) hb); have n4_ := Aside0.mk (blk_below (g := gb185) (o := .cells #[.int .i16 t180, .slice Ao22 t181.length co22] 57 (0, 0)) (by (with_reducible repeat (first | refine blk_drewN ?_ _ | refine blk_drew ?_ | refine blk_alloc ?_ _)); refine blk_put (cs := #[.int .i16 t180, .slice none 0 0]) ?_ 1 _ rfl; (with_reducible repeat (first | refine blk_drewN ?_ _ | refine blk_drew ?_ | refine blk_alloc ?_ _)); refine blk_put (cs := #[.int .i16 0, .slice none 0 0]) ?_ 0 _ rfl; (with_reducible repeat (first | refine blk_drewN ?_ _ | refine blk_drew ?_ | refine blk_alloc ?_ _)); exact BK185.out) hb); have n5_ := Aside0.mk (below_step (by repeat (first | (with_reducible first | exact HB.out | apply below_alloc | apply pw_below_drewN | apply below_drew1 | refine below_set ?_ GE174.out | refine below_set ?_ GE185.out) | exact HB.out)) hb); clear HO179; clear HO183; clear BK174; clear BK185; clear HB; have HO179 := n0_; have HO183 := n1_; have HO189 := n2_; have BK174 := n3_; have BK185 := n4_; have HB := n5_; clear n0_ n1_ n2_ n3_ n4_ n5_; (try clear hb); (try clear hb2); (try clear hk); (try clear hi); (try clear ho0)) | ((with_reducible refine gate_dst (N := 6) rfl ?_); refine box_event ?hg (N := 6) ?hd (cs := #[.int .i16 0, .slice none 0 0]) (t := 57) ?hr ?_; (case hd => rfl); (case hg => rfl); (case hr => first | (go_simp; done) | (go_simp; rfl)); intro gb190 hg w25 hbox hb; have n0_ := Aside0.mk (Kd.R_below (by (with_reducible repeat (first | apply Kd.R_alloc | apply Kd.R_drewN | apply Kd.R_drew)); exact HO179.out) hb); have n1_ := Aside0.mk (Kd.R_below (by (with_reducible repeat (first | apply Kd.R_alloc | apply Kd.R_drewN | apply Kd.R_drew)); exact HO183.out) hb); have n2_ := Aside0.mk (Kd.R_below (by (with_reducible repeat (first | apply Kd.R_alloc | apply Kd.R_drewN | apply Kd.R_drew)); exact HO189.out) hb); have n3_ := Aside0.mk (blk_below (g := gb174) (o := .cells #[.int .i16 a0_0, .slice A0_1 l0_1.length c0_1] 55 (0, 0)) (by (with_reducible repeat (first | refine blk_drewN ?_ _ | refine blk_drew ?_ | refine blk_alloc ?_ _)); exact BK174.out) hb); have n4_ := Aside0.mk (blk_below (g := gb185) (o := .cells #[.int .i16 t180, .slice Ao22 t181.length co22] 57 (0, 0)) (by (with_reducible repeat (first | refine blk_drewN ?_ _ | refine blk_drew ?_ | refine blk_alloc ?_ _)); exact BK185.out) hb); have n5_ := Aside0.mk (below_step (by repeat (first | (with_reducible first | exact HB.out | apply below_alloc | apply pw_below_drewN | apply below_drew1 | refine below_set ?_ GE174.out | refine below_set ?_ GE185.out) | exact HB.out)) hb); have n6_ := Aside0.mk (hbox); have n7_ := Aside0.mk ((by rw [hg]; exact (below_size (by repeat (first | (with_reducible first | exact HB.out | apply below_alloc | apply pw_below_drewN | apply below_drew1 | refine below_set ?_ GE174.out | refine below_set ?_ GE185.out) | exact HB.out))) : w.heap.size ≤ gb190)); have n8_ := Aside0.mk ((by rw [hg]; exact (below_size (by repeat (first | (with_reducible first | exact HB.out | apply below_alloc | apply pw_below_drewN | apply below_drew1 | refine below_set ?_ GE174.out | refine below_set ?_ GE185.out) | exact HB.out))) : w.heap.size ≤ gb190)); have n9_ := Aside0.mk ((by rw [hg]; exact Nat.ne_of_lt (blk_lt (g := gb174) (o := .cells #[.int .i16 a0_0, .slice A0_1 l0_1.length c0_1] 55 (0, 0)) (by (with_reducible repeat (first | refine blk_drewN ?_ _ | refine blk_drew ?_ | refine blk_alloc ?_ _)); exact BK174.out)) : gb174 ≠ gb190)); have n10_ := Aside0.mk ((by rw [hg]; exact Nat.ne_of_gt (blk_lt (g := gb174) (o := .cells #[.int .i16 a0_0, .slice A0_1 l0_1.length c0_1] 55 (0, 0)) (by (with_reducible repeat (first | refine blk_drewN ?_ _ | refine blk_drew ?_ | refine blk_alloc ?_ _)); exact BK174.out)) : gb190 ≠ gb174)); have n11_ := Aside0.mk ((by rw [hg]; exact Nat.ne_of_lt (blk_lt (g := gb185) (o := .cells #[.int .i16 t180, .slice Ao22 t181.length co22] 57 (0, 0)) (by (with_reducible repeat (first | refine blk_drewN ?_ _ | refine blk_drew ?_ | refine blk_alloc ?_ _)); exact BK185.out)) : gb185 ≠ gb190)); have n12_ := Aside0.mk ((by rw [hg]; exact Nat.ne_of_gt (blk_lt (g := gb185) (o := .cells #[.int .i16 t180, .slice Ao22 t181.length co22] 57 (0, 0)) (by (with_reducible repeat (first | refine blk_drewN ?_ _ | refine blk_drew ?_ | refine blk_alloc ?_ _)); exact BK185.out)) : gb190 ≠ gb185)); clear HO179; clear HO183; clear HO189; clear BK174; clear BK185; clear HB; have HO179 := n0_; have HO183 := n1_; have HO189 := n2_; have BK174 := n3_; have BK185 := n4_; have HB := n5_; have BK190 := n6_; have GW190 := n7_; have GE190 := n8_; have NB174_190 := n9_; have NB190_174 := n10_; have NB185_190 := n11_; have NB190_185 := n12_; clear n0_ n1_ n2_ n3_ n4_ n5_ n6_ n7_ n8_ n9_ n10_ n11_ n12_; clear hb hbox hg; have hnb26 := NB190_174.out; have hnc26 := NB174_190.out; have hnb27 := NB190_185.out; have hnc27 := NB185_190.out; have hcz28_0 : w25.cell? ⟨gb190, 0, none⟩ = some (.int .i16 0) := (blk_cell BK190.out 0).trans rfl; have hcz28_1 : w25.cell? ⟨gb190, 1, none⟩ = some (.slice none 0 0) := (blk_cell BK190.out 1).trans rfl; have hfz28_0 := blk_frozen BK190.out 0; have hfz28_1 := blk_frozen BK190.out 1; obtain ⟨Ao29, co29, eo29⟩ := Kd.R_slice HO189.out; subst eo29) | ((with_reducible refine gate_callee (f := 35) rfl ?_); refine goesL_ (some 29) rfl rfl Try.func35 (by kernel_rfl) rfl #[.agg #[.int .i16 t186, .slice Ao29 t187.length co29]] rfl (by (try simp only [List.map_toArray, List.map_cons, List.map_nil]); first | done | rfl | (simp only [List.length_drop, List.length_take]; rfl)) ?_; (with_reducible refine (impl_MirrorFabric.calls k t186 _ _ t187 t191 t192 t195 _ ?side1 ?side2 A10.out).mono ?_); (case side1 => refine (Kd.R_reads' (e := 9) (base := w.heap.size) (ok := fun k_ => ((True ∧ some k_ ≠ (.slice Ao17 t177.length co17 : Value).ownBlock) ∧ some k_ ≠ (.slice Ao22 t181.length co22 : Value).ownBlock)) (n := t187.length) (c := co29) ?_).2.2; exact (by (with_reducible repeat (first | apply Kd.R_alloc | apply Kd.R_drewN | apply Kd.R_drew)); exact (Kd.R_mono (Kd.R_far (p := ⟨gb190, 1, none⟩) (Kd.R_far (p := ⟨gb190, 0, none⟩) (Kd.R_types HO189.out BK190.out (by decide)) (fun _ hk => hk.2) (.int .i16 t186)) (fun _ hk => hk.2) (.slice Ao29 t187.length co29)) (fun _ h_ => h_.1)))); (case side2 => exact (Kd.R_reads' HO189.out).2.1); rintro e w30 ⟨v193, rfl, ho0, hb⟩; refine ⟨_, rfl, ?_⟩; have n0_ := Aside0.mk (Kd.R_elder' (by (with_reducible repeat (first | apply Kd.R_alloc | apply Kd.R_drewN | apply Kd.R_drew)); exact (Kd.R_mono (Kd.R_far (p := ⟨gb190, 1, none⟩) (Kd.R_far (p := ⟨gb190, 0, none⟩) (Kd.R_types HO179.out BK190.out (by decide)) (fun _ hk => hk.2) (.int .i16 t186)) (fun _ hk => hk.2) (.slice Ao29 t187.length co29)) (fun _ h_ => h_.1))) (Kd.R_base ho0) hb); have n1_ := Aside0.mk (Kd.R_elder' (by (with_reducible repeat (first | apply Kd.R_alloc | apply Kd.R_drewN | apply Kd.R_drew)); exact (Kd.R_mono (Kd.R_far (p := ⟨gb190, 1, none⟩) (Kd.R_far (p := ⟨gb190, 0, none⟩) (Kd.R_types HO183.out BK190.out (by decide)) (fun _ hk => hk.2) (.int .i16 t186)) (fun _ hk => hk.2) (.slice Ao29 t187.length co29)) (fun _ h_ => h_.1))) (Kd.R_base ho0) hb); have n2_ := Aside0.mk (Kd.R_elder' (by (with_reducible repeat (first | apply Kd.R_alloc | apply Kd.R_drewN | apply Kd.R_drew)); exact (Kd.R_mono (Kd.R_far (p := ⟨gb190, 1, none⟩) (Kd.R_far (p := ⟨gb190, 0, none⟩) (Kd.R_types HO189.out BK190.out (by decide)) (fun _ hk => hk.2) (.int .i16 t186)) (fun _ hk => hk.2) (.slice Ao29 t187.length co29)) (fun _ h_ => h_.1))) (Kd.R_base ho0) hb); have n3_ := Aside0.mk (Kd.R_lower (Kd.R_new' (Kd.R_new' (Kd.R_new' ho0 (Kd.R_lt (by (with_reducible repeat (first | apply Kd.R_alloc | apply Kd.R_drewN | apply Kd.R_drew)); exact (Kd.R_mono (Kd.R_far (p := ⟨gb190, 1, none⟩) (Kd.R_far (p := ⟨gb190, 0, none⟩) (Kd.R_types HO179.out BK190.out (by decide)) (fun _ hk => hk.2) (.int .i16 t186)) (fun _ hk => hk.2) (.slice Ao29 t187.length co29)) (fun _ h_ => h_.1))))) (Kd.R_lt (by (with_reducible repeat (first | apply Kd.R_alloc | apply Kd.R_drewN | apply Kd.R_drew)); exact (Kd.R_mono (Kd.R_far (p := ⟨gb190, 1, none⟩) (Kd.R_far (p := ⟨gb190, 0, none⟩) (Kd.R_types HO183.out BK190.out (by decide)) (fun _ hk => hk.2) (.int .i16 t186)) (fun _ hk => hk.2) (.slice Ao29 t187.length co29)) (fun _ h_ => h_.1))))) (Kd.R_lt (by (with_reducible repeat (first | apply Kd.R_alloc | apply Kd.R_drewN | apply Kd.R_drew)); exact (Kd.R_mono (Kd.R_far (p := ⟨gb190, 1, none⟩) (Kd.R_far (p := ⟨gb190, 0, none⟩) (Kd.R_types HO189.out BK190.out (by decide)) (fun _ hk => hk.2) (.int .i16 t186)) (fun _ hk => hk.2) (.slice Ao29 t187.length co29)) (fun _ h_ => h_.1))))) (below_size (by repeat (first | (with_reducible first | exact HB.out | apply below_alloc | apply pw_below_drewN | apply below_drew1 | refine below_set ?_ GE174.out | refine below_set ?_ GE185.out | refine below_set ?_ GE190.out) | exact HB.out)))); have n4_ := Aside0.mk (blk_below (g := gb174) (o := .cells #[.int .i16 a0_0, .slice A0_1 l0_1.length c0_1] 55 (0, 0)) (by (with_reducible repeat (first | refine blk_drewN ?_ _ | refine blk_drew ?_ | refine blk_alloc ?_ _)); refine blk_far ?_ NB174_190.out _; (with_reducible repeat (first | refine blk_drewN ?_ _ | refine blk_drew ?_ | refine blk_alloc ?_ _)); refine blk_far ?_ NB174_190.out _; (with_reducible repeat (first | refine blk_drewN ?_ _ | refine blk_drew ?_ | refine blk_alloc ?_ _)); exact BK174.out) hb); have n5_ := Aside0.mk (blk_below (g := gb185) (o := .cells #[.int .i16 t180, .slice Ao22 t181.length co22] 57 (0, 0)) (by (with_reducible repeat (first | refine blk_drewN ?_ _ | refine blk_drew ?_ | refine blk_alloc ?_ _)); refine blk_far ?_ NB185_190.out _; (with_reducible repeat (first | refine blk_drewN ?_ _ | refine blk_drew ?_ | refine blk_alloc ?_ _)); refine blk_far ?_ NB185_190.out _; (with_reducible repeat (first | refine blk_drewN ?_ _ | refine blk_drew ?_ | refine blk_alloc ?_ _)); exact BK185.out) hb); have n6_ := Aside0.mk (blk_below (g := gb190) (o := .cells #[.int .i16 t186, .slice Ao29 t187.length co29] 57 (0, 0)) (by (with_reducible repeat (first | refine blk_drewN ?_ _ | refine blk_drew ?_ | refine blk_alloc ?_ _)); refine blk_put (cs := #[.int .i16 t186, .slice none 0 0]) ?_ 1 _ rfl; (with_reducible repeat (first | refine blk_drewN ?_ _ | refine blk_drew ?_ | refine blk_alloc ?_ _)); refine blk_put (cs := #[.int .i16 0, .slice none 0 0]) ?_ 0 _ rfl; (with_reducible repeat (first | refine blk_drewN ?_ _ | refine blk_drew ?_ | refine blk_alloc ?_ _)); exact BK190.out) hb); have n7_ := Aside0.mk (below_step (by repeat (first | (with_reducible first | exact HB.out | apply below_alloc | apply pw_below_drewN | apply below_drew1 | refine below_set ?_ GE174.out | refine below_set ?_ GE185.out | refine below_set ?_ GE190.out) | exact HB.out)) hb); clear HO179; clear HO183; clear HO189; clear BK174; clear BK185; clear BK190; clear HB; have HO179 := n0_; have HO183 := n1_; have HO189 := n2_; have HO194 := n3_; have BK174 := n4_; have BK185 := n5_; have BK190 := n6_; have HB := n7_; clear n0_ n1_ n2_ n3_ n4_ n5_ n6_ n7_; (try clear hb); (try clear hb2); (try clear hk); (try clear hi); (try clear ho0)) | ((with_reducible refine gate_dst (N := 7) rfl ?_); refine box_event ?hg (N := 7) ?hd (cs := #[.int .i16 0, .slice none 0 0]) (t := 57) ?hr ?_; (case hd => rfl); (case hg => rfl); (case hr => first | (go_simp; done) | (go_simp; rfl)); intro gb196 hg w31 hbox hb; have n0_ := Aside0.mk (Kd.R_below (by (with_reducible repeat (first | apply Kd.R_alloc | apply Kd.R_drewN | apply Kd.R_drew)); exact HO179.out) hb); have n1_ := Aside0.mk (Kd.R_below (by (with_reducible repeat (first | apply Kd.R_alloc | apply Kd.R_drewN | apply Kd.R_drew)); exact HO183.out) hb); have n2_ := Aside0.mk (Kd.R_below (by (with_reducible repeat (first | apply Kd.R_alloc | apply Kd.R_drewN | apply Kd.R_drew)); exact HO189.out) hb); have n3_ := Aside0.mk (Kd.R_below (by (with_reducible repeat (first | apply Kd.R_alloc | apply Kd.R_drewN | apply Kd.R_drew)); exact HO194.out) hb); have n4_ := Aside0.mk (blk_below (g := gb174) (o := .cells #[.int .i16 a0_0, .slice A0_1 l0_1.length c0_1] 55 (0, 0)) (by (with_reducible repeat (first | refine blk_drewN ?_ _ | refine blk_drew ?_ | refine blk_alloc ?_ _)); exact BK174.out) hb); have n5_ := Aside0.mk (blk_below (g := gb185) (o := .cells #[.int .i16 t180, .slice Ao22 t181.length co22] 57 (0, 0)) (by (with_reducible repeat (first | refine blk_drewN ?_ _ | refine blk_drew ?_ | refine blk_alloc ?_ _)); exact BK185.out) hb); have n6_ := Aside0.mk (blk_below (g := gb190) (o := .cells #[.int .i16 t186, .slice Ao29 t187.length co29] 57 (0, 0)) (by (with_reducible repeat (first | refine blk_drewN ?_ _ | refine blk_drew ?_ | refine blk_alloc ?_ _)); exact BK190.out) hb); have n7_ := Aside0.mk (below_step (by repeat (first | (with_reducible first | exact HB.out | apply below_alloc | apply pw_below_drewN | apply below_drew1 | refine below_set ?_ GE174.out | refine below_set ?_ GE185.out | refine below_set ?_ GE190.out) | exact HB.out)) hb); have n8_ := Aside0.mk (hbox); have n9_ := Aside0.mk ((by rw [hg]; exact (below_size (by repeat (first | (with_reducible first | exact HB.out | apply below_alloc | apply pw_below_drewN | apply below_drew1 | refine below_set ?_ GE174.out | refine below_set ?_ GE185.out | refine below_set ?_ GE190.out) | exact HB.out))) : w.heap.size ≤ gb196)); have n10_ := Aside0.mk ((by rw [hg]; exact (below_size (by repeat (first | (with_reducible first | exact HB.out | apply below_alloc | apply pw_below_drewN | apply below_drew1 | refine below_set ?_ GE174.out | refine below_set ?_ GE185.out | refine below_set ?_ GE190.out) | exact HB.out))) : w.heap.size ≤ gb196)); have n11_ := Aside0.mk ((by rw [hg]; exact Nat.ne_of_lt (blk_lt (g := gb174) (o := .cells #[.int .i16 a0_0, .slice A0_1 l0_1.length c0_1] 55 (0, 0)) (by (with_reducible repeat (first | refine blk_drewN ?_ _ | refine blk_drew ?_ | refine blk_alloc ?_ _)); exact BK174.out)) : gb174 ≠ gb196)); have n12_ := Aside0.mk ((by rw [hg]; exact Nat.ne_of_gt (blk_lt (g := gb174) (o := .cells #[.int .i16 a0_0, .slice A0_1 l0_1.length c0_1] 55 (0, 0)) (by (with_reducible repeat (first | refine blk_drewN ?_ _ | refine blk_drew ?_ | refine blk_alloc ?_ _)); exact BK174.out)) : gb196 ≠ gb174)); have n13_ := Aside0.mk ((by rw [hg]; exact Nat.ne_of_lt (blk_lt (g := gb185) (o := .cells #[.int .i16 t180, .slice Ao22 t181.length co22] 57 (0, 0)) (by (with_reducible repeat (first | refine blk_drewN ?_ _ | refine blk_drew ?_ | refine blk_alloc ?_ _)); exact BK185.out)) : gb185 ≠ gb196)); have n14_ := Aside0.mk ((by rw [hg]; exact Nat.ne_of_gt (blk_lt (g := gb185) (o := .cells #[.int .i16 t180, .slice Ao22 t181.length co22] 57 (0, 0)) (by (with_reducible repeat (first | refine blk_drewN ?_ _ | refine blk_drew ?_ | refine blk_alloc ?_ _)); exact BK185.out)) : gb196 ≠ gb185)); have n15_ := Aside0.mk ((by rw [hg]; exact Nat.ne_of_lt (blk_lt (g := gb190) (o := .cells #[.int .i16 t186, .slice Ao29 t187.length co29] 57 (0, 0)) (by (with_reducible repeat (first | refine blk_drewN ?_ _ | refine blk_drew ?_ | refine blk_alloc ?_ _)); exact BK190.out)) : gb190 ≠ gb196)); have n16_ := Aside0.mk ((by rw [hg]; exact Nat.ne_of_gt (blk_lt (g := gb190) (o := .cells #[.int .i16 t186, .slice Ao29 t187.length co29] 57 (0, 0)) (by (with_reducible repeat (first | refine blk_drewN ?_ _ | refine blk_drew ?_ | refine blk_alloc ?_ _)); exact BK190.out)) : gb196 ≠ gb190)); clear HO179; clear HO183; clear HO189; clear HO194; clear BK174; clear BK185; clear BK190; clear HB; have HO179 := n0_; have HO183 := n1_; have HO189 := n2_; have HO194 := n3_; have BK174 := n4_; have BK185 := n5_; have BK190 := n6_; have HB := n7_; have BK196 := n8_; have GW196 := n9_; have GE196 := n10_; have NB174_196 := n11_; have NB196_174 := n12_; have NB185_196 := n13_; have NB196_185 := n14_; have NB190_196 := n15_; have NB196_190 := n16_; clear n0_ n1_ n2_ n3_ n4_ n5_ n6_ n7_ n8_ n9_ n10_ n11_ n12_ n13_ n14_ n15_ n16_; clear hb hbox hg; have hnb32 := NB196_174.out; have hnc32 := NB174_196.out; have hnb33 := NB196_185.out; have hnc33 := NB185_196.out; have hnb34 := NB196_190.out; have hnc34 := NB190_196.out; have hcz35_0 : w31.cell? ⟨gb196, 0, none⟩ = some (.int .i16 0) := (blk_cell BK196.out 0).trans rfl; have hcz35_1 : w31.cell? ⟨gb196, 1, none⟩ = some (.slice none 0 0) := (blk_cell BK196.out 1).trans rfl; have hfz35_0 := blk_frozen BK196.out 0; have hfz35_1 := blk_frozen BK196.out 1; obtain ⟨Ao36, co36, eo36⟩ := Kd.R_slice HO194.out; subst eo36))
    (try simp only [Act.put, List.setIfInBounds_toArray, List.set_cons_zero, List.set_cons_succ])
    go_cut [40] (fun v40 wc => ∃ (kq : Nat) (x40_10 : Bool), v40 = .bool x40_10 ∧ Aside0 (laws_FnExactMirrorFabric.j0 kq t184 t195 x40_10 a0_0 l0_1 t180 t181 t186 t187 t191 t192 = some r) ∧ Aside0 (kq ≤ k) ∧ Aside0 (Kd.R Kd.string 9 wc w.heap.size (fun k_ => some k_ ≠ ((.slice Ao29 t187.length co29) : Value).ownBlock ∧ some k_ ≠ ((.slice Ao36 t192.length co36) : Value).ownBlock) (.slice Ao22 t181.length co22) t181) ∧ Aside0 (Kd.R Kd.string 9 wc w.heap.size (fun k_ => some k_ ≠ ((.slice Ao22 t181.length co22) : Value).ownBlock ∧ some k_ ≠ ((.slice Ao36 t192.length co36) : Value).ownBlock) (.slice Ao29 t187.length co29) t187) ∧ Aside0 (Kd.R Kd.string 9 wc w.heap.size (fun k_ => some k_ ≠ ((.slice Ao22 t181.length co22) : Value).ownBlock ∧ some k_ ≠ ((.slice Ao29 t187.length co29) : Value).ownBlock) (.slice Ao36 t192.length co36) t192) ∧ Aside0 (wc.heap[gb174]? = some (.cells #[.int .i16 a0_0, (.slice A0_1 l0_1.length c0_1)] 55 (0, 0))) ∧ Aside0 (wc.heap[gb185]? = some (.cells #[.int .i16 t180, (.slice Ao22 t181.length co22)] 57 (0, 0))) ∧ Aside0 (wc.heap[gb190]? = some (.cells #[.int .i16 t186, (.slice Ao29 t187.length co29)] 57 (0, 0))) ∧ Aside0 (wc.heap[gb196]? = some (.cells #[.int .i16 t191, (.slice Ao36 t192.length co36)] 57 (0, 0))) ∧ Aside0 (Below w.heap.size w wc))
    case first =>
      as_aux_lemma =>
      have H := HC11.out
      clear HC11
      replace H := Option.bind_eq_some_iff.mp H
      obtain ⟨t197, A370, H⟩ := H
      replace H : (if t197 = true then (laws_FnExactMirrorFabric.j0 k t184 t195 (t195 != t184) a0_0 l0_1 t180 t181 t186 t187 t191 t192) else (laws_FnExactMirrorFabric.j0 k t184 t195 true a0_0 l0_1 t180 t181 t186 t187 t191 t192)) = some r := H
      have A37 := Aside0.mk A370
      clear A370
      by_cases c38 : t197 = true
      · subst c38
        have H1 : (laws_FnExactMirrorFabric.j0 k t184 t195 (t195 != t184) a0_0 l0_1 t180 t181 t186 t187 t191 t192) = some r := by rw [if_pos rfl] at H; exact H
        clear H
        have H := H1
        clear H1
        have H' := Aside0.mk H
        clear H
        have hnb39 := NB196_174.out
        have hnc39 := NB174_196.out
        have hnb40 := NB196_185.out
        have hnc40 := NB185_196.out
        have hnb41 := NB196_190.out
        have hnc41 := NB190_196.out
        have hcz42_0 : w31.cell? ⟨gb196, 0, none⟩ = some (.int .i16 0) := (blk_cell BK196.out 0).trans rfl
        have hcz42_1 : w31.cell? ⟨gb196, 1, none⟩ = some (.slice none 0 0) := (blk_cell BK196.out 1).trans rfl
        have hfz42_0 := blk_frozen BK196.out 0
        have hfz42_1 := blk_frozen BK196.out 1
        have hnb43 := NB185_174.out
        have hnc43 := NB174_185.out
        have hnb44 := NB185_190.out
        have hnc44 := NB190_185.out
        have hcz45_0 : w31.cell? ⟨gb185, 0, none⟩ = some (.int .i16 t180) := (blk_cell BK185.out 0).trans rfl
        have hcz45_1 : w31.cell? ⟨gb185, 1, none⟩ = some (.slice Ao22 t181.length co22) := (blk_cell BK185.out 1).trans rfl
        have hfz45_0 := blk_frozen BK185.out 0
        have hfz45_1 := blk_frozen BK185.out 1
        go_wp2_with (first | ((with_reducible refine gate_callee (f := 36) rfl ?_); refine goesL_ (some 34) rfl rfl Try.func36 (by kernel_rfl) rfl #[.agg #[.int .i16 t191, .slice Ao36 t192.length co36], .agg #[.int .i16 t180, .slice Ao22 t181.length co22]] rfl (by (try simp only [List.map_toArray, List.map_cons, List.map_nil]); first | done | rfl | (simp only [List.length_drop, List.length_take]; rfl)) ?_; (with_reducible refine (laws_eqFabric.calls k t191 _ _ t192 t180 _ _ t181 true _ ?side1 ?side2 ?side3 ?side4 A37.out).mono ?_); (case side1 => refine (Kd.R_reads' (e := 9) (base := w.heap.size) (ok := fun k_ => (((True ∧ some k_ ≠ (.slice Ao17 t177.length co17 : Value).ownBlock) ∧ some k_ ≠ (.slice Ao22 t181.length co22 : Value).ownBlock) ∧ some k_ ≠ (.slice Ao29 t187.length co29 : Value).ownBlock)) (n := t192.length) (c := co36) ?_).2.2; exact (by (with_reducible repeat (first | apply Kd.R_alloc | apply Kd.R_drewN | apply Kd.R_drew)); exact (Kd.R_mono (Kd.R_far (p := ⟨gb196, 1, none⟩) (Kd.R_far (p := ⟨gb196, 0, none⟩) (Kd.R_types HO194.out BK196.out (by decide)) (fun _ hk => hk.2) (.int .i16 t191)) (fun _ hk => hk.2) (.slice Ao36 t192.length co36)) (fun _ h_ => h_.1)))); (case side2 => exact (Kd.R_reads' HO194.out).2.1); (case side3 => refine (Kd.R_reads' (e := 9) (base := w.heap.size) (ok := fun k_ => (((True ∧ some k_ ≠ (.slice Ao17 t177.length co17 : Value).ownBlock) ∧ some k_ ≠ (.slice Ao29 t187.length co29 : Value).ownBlock) ∧ some k_ ≠ (.slice Ao36 t192.length co36 : Value).ownBlock)) (n := t181.length) (c := co22) ?_).2.2; exact (by (with_reducible repeat (first | apply Kd.R_alloc | apply Kd.R_drewN | apply Kd.R_drew)); exact (Kd.R_mono (Kd.R_far (p := ⟨gb196, 1, none⟩) (Kd.R_far (p := ⟨gb196, 0, none⟩) (Kd.R_types HO183.out BK196.out (by decide)) (fun _ hk => hk.2) (.int .i16 t191)) (fun _ hk => hk.2) (.slice Ao36 t192.length co36)) (fun _ h_ => h_.1)))); (case side4 => exact (Kd.R_reads' HO183.out).2.1); rintro e w46 ⟨rfl, hb⟩; refine ⟨_, rfl, ?_⟩; have n0_ := Aside0.mk (Kd.R_below (by (with_reducible repeat (first | apply Kd.R_alloc | apply Kd.R_drewN | apply Kd.R_drew)); exact (Kd.R_mono (Kd.R_far (p := ⟨gb196, 1, none⟩) (Kd.R_far (p := ⟨gb196, 0, none⟩) (Kd.R_types HO179.out BK196.out (by decide)) (fun _ hk => hk.2) (.int .i16 t191)) (fun _ hk => hk.2) (.slice Ao36 t192.length co36)) (fun _ h_ => h_.1))) hb); have n1_ := Aside0.mk (Kd.R_below (by (with_reducible repeat (first | apply Kd.R_alloc | apply Kd.R_drewN | apply Kd.R_drew)); exact (Kd.R_mono (Kd.R_far (p := ⟨gb196, 1, none⟩) (Kd.R_far (p := ⟨gb196, 0, none⟩) (Kd.R_types HO183.out BK196.out (by decide)) (fun _ hk => hk.2) (.int .i16 t191)) (fun _ hk => hk.2) (.slice Ao36 t192.length co36)) (fun _ h_ => h_.1))) hb); have n2_ := Aside0.mk (Kd.R_below (by (with_reducible repeat (first | apply Kd.R_alloc | apply Kd.R_drewN | apply Kd.R_drew)); exact (Kd.R_mono (Kd.R_far (p := ⟨gb196, 1, none⟩) (Kd.R_far (p := ⟨gb196, 0, none⟩) (Kd.R_types HO189.out BK196.out (by decide)) (fun _ hk => hk.2) (.int .i16 t191)) (fun _ hk => hk.2) (.slice Ao36 t192.length co36)) (fun _ h_ => h_.1))) hb); have n3_ := Aside0.mk (Kd.R_below (by (with_reducible repeat (first | apply Kd.R_alloc | apply Kd.R_drewN | apply Kd.R_drew)); exact (Kd.R_mono (Kd.R_far (p := ⟨gb196, 1, none⟩) (Kd.R_far (p := ⟨gb196, 0, none⟩) (Kd.R_types HO194.out BK196.out (by decide)) (fun _ hk => hk.2) (.int .i16 t191)) (fun _ hk => hk.2) (.slice Ao36 t192.length co36)) (fun _ h_ => h_.1))) hb); have n4_ := Aside0.mk (blk_below (g := gb174) (o := .cells #[.int .i16 a0_0, .slice A0_1 l0_1.length c0_1] 55 (0, 0)) (by (with_reducible repeat (first | refine blk_drewN ?_ _ | refine blk_drew ?_ | refine blk_alloc ?_ _)); refine blk_far ?_ NB174_196.out _; (with_reducible repeat (first | refine blk_drewN ?_ _ | refine blk_drew ?_ | refine blk_alloc ?_ _)); refine blk_far ?_ NB174_196.out _; (with_reducible repeat (first | refine blk_drewN ?_ _ | refine blk_drew ?_ | refine blk_alloc ?_ _)); exact BK174.out) hb); have n5_ := Aside0.mk (blk_below (g := gb185) (o := .cells #[.int .i16 t180, .slice Ao22 t181.length co22] 57 (0, 0)) (by (with_reducible repeat (first | refine blk_drewN ?_ _ | refine blk_drew ?_ | refine blk_alloc ?_ _)); refine blk_far ?_ NB185_196.out _; (with_reducible repeat (first | refine blk_drewN ?_ _ | refine blk_drew ?_ | refine blk_alloc ?_ _)); refine blk_far ?_ NB185_196.out _; (with_reducible repeat (first | refine blk_drewN ?_ _ | refine blk_drew ?_ | refine blk_alloc ?_ _)); exact BK185.out) hb); have n6_ := Aside0.mk (blk_below (g := gb190) (o := .cells #[.int .i16 t186, .slice Ao29 t187.length co29] 57 (0, 0)) (by (with_reducible repeat (first | refine blk_drewN ?_ _ | refine blk_drew ?_ | refine blk_alloc ?_ _)); refine blk_far ?_ NB190_196.out _; (with_reducible repeat (first | refine blk_drewN ?_ _ | refine blk_drew ?_ | refine blk_alloc ?_ _)); refine blk_far ?_ NB190_196.out _; (with_reducible repeat (first | refine blk_drewN ?_ _ | refine blk_drew ?_ | refine blk_alloc ?_ _)); exact BK190.out) hb); have n7_ := Aside0.mk (blk_below (g := gb196) (o := .cells #[.int .i16 t191, .slice Ao36 t192.length co36] 57 (0, 0)) (by (with_reducible repeat (first | refine blk_drewN ?_ _ | refine blk_drew ?_ | refine blk_alloc ?_ _)); refine blk_put (cs := #[.int .i16 t191, .slice none 0 0]) ?_ 1 _ rfl; (with_reducible repeat (first | refine blk_drewN ?_ _ | refine blk_drew ?_ | refine blk_alloc ?_ _)); refine blk_put (cs := #[.int .i16 0, .slice none 0 0]) ?_ 0 _ rfl; (with_reducible repeat (first | refine blk_drewN ?_ _ | refine blk_drew ?_ | refine blk_alloc ?_ _)); exact BK196.out) hb); have n8_ := Aside0.mk (below_step (by repeat (first | (with_reducible first | exact HB.out | apply below_alloc | apply pw_below_drewN | apply below_drew1 | refine below_set ?_ GE174.out | refine below_set ?_ GE185.out | refine below_set ?_ GE190.out | refine below_set ?_ GE196.out) | exact HB.out)) hb); clear HO179; clear HO183; clear HO189; clear HO194; clear BK174; clear BK185; clear BK190; clear BK196; clear HB; have HO179 := n0_; have HO183 := n1_; have HO189 := n2_; have HO194 := n3_; have BK174 := n4_; have BK185 := n5_; have BK190 := n6_; have BK196 := n7_; have HB := n8_; clear n0_ n1_ n2_ n3_ n4_ n5_ n6_ n7_ n8_; (try clear hb); (try clear hb2); (try clear hk); (try clear hi)))
        go_meet
        case rel => exact ⟨_, ((t195 != t184)), (by first | rfl | (simp; done) | (simp [*]; done)), H', ⟨by first | omega | exact Nat.le_refl _⟩, ⟨by (with_reducible repeat (first | apply Kd.R_alloc | apply Kd.R_drewN | apply Kd.R_drew)); exact Kd.R_mono HO183.out (fun _ hk => ⟨hk.1.2, hk.2⟩)⟩, ⟨by (with_reducible repeat (first | apply Kd.R_alloc | apply Kd.R_drewN | apply Kd.R_drew)); exact Kd.R_mono HO189.out (fun _ hk => ⟨hk.1.2, hk.2⟩)⟩, ⟨by (with_reducible repeat (first | apply Kd.R_alloc | apply Kd.R_drewN | apply Kd.R_drew)); exact Kd.R_mono HO194.out (fun _ hk => ⟨hk.1.2, hk.2⟩)⟩, ⟨by (with_reducible repeat (first | refine blk_drewN ?_ _ | refine blk_drew ?_ | refine blk_alloc ?_ _)); exact BK174.out⟩, ⟨by (with_reducible repeat (first | refine blk_drewN ?_ _ | refine blk_drew ?_ | refine blk_alloc ?_ _)); exact BK185.out⟩, ⟨by (with_reducible repeat (first | refine blk_drewN ?_ _ | refine blk_drew ?_ | refine blk_alloc ?_ _)); exact BK190.out⟩, ⟨by (with_reducible repeat (first | refine blk_drewN ?_ _ | refine blk_drew ?_ | refine blk_alloc ?_ _)); exact BK196.out⟩, ⟨by repeat (first | (with_reducible first | exact HB.out | apply below_alloc | apply pw_below_drewN | apply below_drew1 | refine below_set ?_ GE174.out | refine below_set ?_ GE185.out | refine below_set ?_ GE190.out | refine below_set ?_ GE196.out) | exact HB.out)⟩⟩
      · replace c38 := Bool.eq_false_iff.mpr c38
        subst c38
        have H1 : (laws_FnExactMirrorFabric.j0 k t184 t195 true a0_0 l0_1 t180 t181 t186 t187 t191 t192) = some r := by rw [if_neg (show ¬ (false = true) by decide)] at H; exact H
        clear H
        have H := H1
        clear H1
        have H' := Aside0.mk H
        clear H
        have hnb47 := NB196_174.out
        have hnc47 := NB174_196.out
        have hnb48 := NB196_185.out
        have hnc48 := NB185_196.out
        have hnb49 := NB196_190.out
        have hnc49 := NB190_196.out
        have hcz50_0 : w31.cell? ⟨gb196, 0, none⟩ = some (.int .i16 0) := (blk_cell BK196.out 0).trans rfl
        have hcz50_1 : w31.cell? ⟨gb196, 1, none⟩ = some (.slice none 0 0) := (blk_cell BK196.out 1).trans rfl
        have hfz50_0 := blk_frozen BK196.out 0
        have hfz50_1 := blk_frozen BK196.out 1
        have hnb51 := NB185_174.out
        have hnc51 := NB174_185.out
        have hnb52 := NB185_190.out
        have hnc52 := NB190_185.out
        have hcz53_0 : w31.cell? ⟨gb185, 0, none⟩ = some (.int .i16 t180) := (blk_cell BK185.out 0).trans rfl
        have hcz53_1 : w31.cell? ⟨gb185, 1, none⟩ = some (.slice Ao22 t181.length co22) := (blk_cell BK185.out 1).trans rfl
        have hfz53_0 := blk_frozen BK185.out 0
        have hfz53_1 := blk_frozen BK185.out 1
        go_wp2_with (first | ((with_reducible refine gate_callee (f := 36) rfl ?_); refine goesL_ (some 34) rfl rfl Try.func36 (by kernel_rfl) rfl #[.agg #[.int .i16 t191, .slice Ao36 t192.length co36], .agg #[.int .i16 t180, .slice Ao22 t181.length co22]] rfl (by (try simp only [List.map_toArray, List.map_cons, List.map_nil]); first | done | rfl | (simp only [List.length_drop, List.length_take]; rfl)) ?_; (with_reducible refine (laws_eqFabric.calls k t191 _ _ t192 t180 _ _ t181 false _ ?side1 ?side2 ?side3 ?side4 A37.out).mono ?_); (case side1 => refine (Kd.R_reads' (e := 9) (base := w.heap.size) (ok := fun k_ => (((True ∧ some k_ ≠ (.slice Ao17 t177.length co17 : Value).ownBlock) ∧ some k_ ≠ (.slice Ao22 t181.length co22 : Value).ownBlock) ∧ some k_ ≠ (.slice Ao29 t187.length co29 : Value).ownBlock)) (n := t192.length) (c := co36) ?_).2.2; exact (by (with_reducible repeat (first | apply Kd.R_alloc | apply Kd.R_drewN | apply Kd.R_drew)); exact (Kd.R_mono (Kd.R_far (p := ⟨gb196, 1, none⟩) (Kd.R_far (p := ⟨gb196, 0, none⟩) (Kd.R_types HO194.out BK196.out (by decide)) (fun _ hk => hk.2) (.int .i16 t191)) (fun _ hk => hk.2) (.slice Ao36 t192.length co36)) (fun _ h_ => h_.1)))); (case side2 => exact (Kd.R_reads' HO194.out).2.1); (case side3 => refine (Kd.R_reads' (e := 9) (base := w.heap.size) (ok := fun k_ => (((True ∧ some k_ ≠ (.slice Ao17 t177.length co17 : Value).ownBlock) ∧ some k_ ≠ (.slice Ao29 t187.length co29 : Value).ownBlock) ∧ some k_ ≠ (.slice Ao36 t192.length co36 : Value).ownBlock)) (n := t181.length) (c := co22) ?_).2.2; exact (by (with_reducible repeat (first | apply Kd.R_alloc | apply Kd.R_drewN | apply Kd.R_drew)); exact (Kd.R_mono (Kd.R_far (p := ⟨gb196, 1, none⟩) (Kd.R_far (p := ⟨gb196, 0, none⟩) (Kd.R_types HO183.out BK196.out (by decide)) (fun _ hk => hk.2) (.int .i16 t191)) (fun _ hk => hk.2) (.slice Ao36 t192.length co36)) (fun _ h_ => h_.1)))); (case side4 => exact (Kd.R_reads' HO183.out).2.1); rintro e w54 ⟨rfl, hb⟩; refine ⟨_, rfl, ?_⟩; have n0_ := Aside0.mk (Kd.R_below (by (with_reducible repeat (first | apply Kd.R_alloc | apply Kd.R_drewN | apply Kd.R_drew)); exact (Kd.R_mono (Kd.R_far (p := ⟨gb196, 1, none⟩) (Kd.R_far (p := ⟨gb196, 0, none⟩) (Kd.R_types HO179.out BK196.out (by decide)) (fun _ hk => hk.2) (.int .i16 t191)) (fun _ hk => hk.2) (.slice Ao36 t192.length co36)) (fun _ h_ => h_.1))) hb); have n1_ := Aside0.mk (Kd.R_below (by (with_reducible repeat (first | apply Kd.R_alloc | apply Kd.R_drewN | apply Kd.R_drew)); exact (Kd.R_mono (Kd.R_far (p := ⟨gb196, 1, none⟩) (Kd.R_far (p := ⟨gb196, 0, none⟩) (Kd.R_types HO183.out BK196.out (by decide)) (fun _ hk => hk.2) (.int .i16 t191)) (fun _ hk => hk.2) (.slice Ao36 t192.length co36)) (fun _ h_ => h_.1))) hb); have n2_ := Aside0.mk (Kd.R_below (by (with_reducible repeat (first | apply Kd.R_alloc | apply Kd.R_drewN | apply Kd.R_drew)); exact (Kd.R_mono (Kd.R_far (p := ⟨gb196, 1, none⟩) (Kd.R_far (p := ⟨gb196, 0, none⟩) (Kd.R_types HO189.out BK196.out (by decide)) (fun _ hk => hk.2) (.int .i16 t191)) (fun _ hk => hk.2) (.slice Ao36 t192.length co36)) (fun _ h_ => h_.1))) hb); have n3_ := Aside0.mk (Kd.R_below (by (with_reducible repeat (first | apply Kd.R_alloc | apply Kd.R_drewN | apply Kd.R_drew)); exact (Kd.R_mono (Kd.R_far (p := ⟨gb196, 1, none⟩) (Kd.R_far (p := ⟨gb196, 0, none⟩) (Kd.R_types HO194.out BK196.out (by decide)) (fun _ hk => hk.2) (.int .i16 t191)) (fun _ hk => hk.2) (.slice Ao36 t192.length co36)) (fun _ h_ => h_.1))) hb); have n4_ := Aside0.mk (blk_below (g := gb174) (o := .cells #[.int .i16 a0_0, .slice A0_1 l0_1.length c0_1] 55 (0, 0)) (by (with_reducible repeat (first | refine blk_drewN ?_ _ | refine blk_drew ?_ | refine blk_alloc ?_ _)); refine blk_far ?_ NB174_196.out _; (with_reducible repeat (first | refine blk_drewN ?_ _ | refine blk_drew ?_ | refine blk_alloc ?_ _)); refine blk_far ?_ NB174_196.out _; (with_reducible repeat (first | refine blk_drewN ?_ _ | refine blk_drew ?_ | refine blk_alloc ?_ _)); exact BK174.out) hb); have n5_ := Aside0.mk (blk_below (g := gb185) (o := .cells #[.int .i16 t180, .slice Ao22 t181.length co22] 57 (0, 0)) (by (with_reducible repeat (first | refine blk_drewN ?_ _ | refine blk_drew ?_ | refine blk_alloc ?_ _)); refine blk_far ?_ NB185_196.out _; (with_reducible repeat (first | refine blk_drewN ?_ _ | refine blk_drew ?_ | refine blk_alloc ?_ _)); refine blk_far ?_ NB185_196.out _; (with_reducible repeat (first | refine blk_drewN ?_ _ | refine blk_drew ?_ | refine blk_alloc ?_ _)); exact BK185.out) hb); have n6_ := Aside0.mk (blk_below (g := gb190) (o := .cells #[.int .i16 t186, .slice Ao29 t187.length co29] 57 (0, 0)) (by (with_reducible repeat (first | refine blk_drewN ?_ _ | refine blk_drew ?_ | refine blk_alloc ?_ _)); refine blk_far ?_ NB190_196.out _; (with_reducible repeat (first | refine blk_drewN ?_ _ | refine blk_drew ?_ | refine blk_alloc ?_ _)); refine blk_far ?_ NB190_196.out _; (with_reducible repeat (first | refine blk_drewN ?_ _ | refine blk_drew ?_ | refine blk_alloc ?_ _)); exact BK190.out) hb); have n7_ := Aside0.mk (blk_below (g := gb196) (o := .cells #[.int .i16 t191, .slice Ao36 t192.length co36] 57 (0, 0)) (by (with_reducible repeat (first | refine blk_drewN ?_ _ | refine blk_drew ?_ | refine blk_alloc ?_ _)); refine blk_put (cs := #[.int .i16 t191, .slice none 0 0]) ?_ 1 _ rfl; (with_reducible repeat (first | refine blk_drewN ?_ _ | refine blk_drew ?_ | refine blk_alloc ?_ _)); refine blk_put (cs := #[.int .i16 0, .slice none 0 0]) ?_ 0 _ rfl; (with_reducible repeat (first | refine blk_drewN ?_ _ | refine blk_drew ?_ | refine blk_alloc ?_ _)); exact BK196.out) hb); have n8_ := Aside0.mk (below_step (by repeat (first | (with_reducible first | exact HB.out | apply below_alloc | apply pw_below_drewN | apply below_drew1 | refine below_set ?_ GE174.out | refine below_set ?_ GE185.out | refine below_set ?_ GE190.out | refine below_set ?_ GE196.out) | exact HB.out)) hb); clear HO179; clear HO183; clear HO189; clear HO194; clear BK174; clear BK185; clear BK190; clear BK196; clear HB; have HO179 := n0_; have HO183 := n1_; have HO189 := n2_; have HO194 := n3_; have BK174 := n4_; have BK185 := n5_; have BK190 := n6_; have BK196 := n7_; have HB := n8_; clear n0_ n1_ n2_ n3_ n4_ n5_ n6_ n7_ n8_; (try clear hb); (try clear hb2); (try clear hk); (try clear hi)))
        go_meet
        case rel => exact ⟨_, (true), (by first | rfl | (simp; done) | (simp [*]; done)), H', ⟨by first | omega | exact Nat.le_refl _⟩, ⟨by (with_reducible repeat (first | apply Kd.R_alloc | apply Kd.R_drewN | apply Kd.R_drew)); exact Kd.R_mono HO183.out (fun _ hk => ⟨hk.1.2, hk.2⟩)⟩, ⟨by (with_reducible repeat (first | apply Kd.R_alloc | apply Kd.R_drewN | apply Kd.R_drew)); exact Kd.R_mono HO189.out (fun _ hk => ⟨hk.1.2, hk.2⟩)⟩, ⟨by (with_reducible repeat (first | apply Kd.R_alloc | apply Kd.R_drewN | apply Kd.R_drew)); exact Kd.R_mono HO194.out (fun _ hk => ⟨hk.1.2, hk.2⟩)⟩, ⟨by (with_reducible repeat (first | refine blk_drewN ?_ _ | refine blk_drew ?_ | refine blk_alloc ?_ _)); exact BK174.out⟩, ⟨by (with_reducible repeat (first | refine blk_drewN ?_ _ | refine blk_drew ?_ | refine blk_alloc ?_ _)); exact BK185.out⟩, ⟨by (with_reducible repeat (first | refine blk_drewN ?_ _ | refine blk_drew ?_ | refine blk_alloc ?_ _)); exact BK190.out⟩, ⟨by (with_reducible repeat (first | refine blk_drewN ?_ _ | refine blk_drew ?_ | refine blk_alloc ?_ _)); exact BK196.out⟩, ⟨by repeat (first | (with_reducible first | exact HB.out | apply below_alloc | apply pw_below_drewN | apply below_drew1 | refine below_set ?_ GE174.out | refine below_set ?_ GE185.out | refine below_set ?_ GE190.out | refine below_set ?_ GE196.out) | exact HB.out)⟩⟩
    case rest =>
      as_aux_lemma =>
      clear HC11
      try clear c2
      try clear p2
      try clear c3
      try clear c3b0
      try clear c4
      try clear c5
      try clear c7
      try clear c20
      try clear c26
      try clear c27
      try clear c32
      try clear c33
      try clear c34
      try clear c35
      try clear c36
      try clear c38
      try clear c39
      try clear c40
      try clear c41
      try clear c43
      try clear c44
      try clear c47
      try clear c48
      try clear c49
      try clear c51
      try clear c52
      try clear hcz13_0
      try clear hcz13_1
      try clear hcz15_0
      try clear hcz15_1
      try clear hcz21_0
      try clear hcz21_1
      try clear hcz23_0
      try clear hcz23_1
      try clear hcz28_0
      try clear hcz28_1
      try clear hcz35_0
      try clear hcz35_1
      try clear hcz42_0
      try clear hcz42_1
      try clear hcz45_0
      try clear hcz45_1
      try clear hcz50_0
      try clear hcz50_1
      try clear hcz53_0
      try clear hcz53_1
      try clear hcz5_0
      try clear hcz5_1
      try clear hfz13_0
      try clear hfz13_1
      try clear hfz15_0
      try clear hfz15_1
      try clear hfz21_0
      try clear hfz21_1
      try clear hfz23_0
      try clear hfz23_1
      try clear hfz28_0
      try clear hfz28_1
      try clear hfz35_0
      try clear hfz35_1
      try clear hfz42_0
      try clear hfz42_1
      try clear hfz45_0
      try clear hfz45_1
      try clear hfz50_0
      try clear hfz50_1
      try clear hfz53_0
      try clear hfz53_1
      try clear hfz5_0
      try clear hfz5_1
      obtain ⟨kq, x40_10, rfl, HA, HJ10, HO_186001, HO_191001, HO_197001, BK174, BK185, BK190, BK196, HB⟩ := hcut
      cases kq with
      | zero => exact absurd HA.out (by simp [laws_FnExactMirrorFabric.j0])
      | succ kj10 =>
        have H := HA.out
        clear HA
        simp only [laws_FnExactMirrorFabric.j0] at H
        by_cases c55 : x40_10 = true
        · subst c55
          have H1 : (none) = some r := by rw [if_pos rfl] at H; exact H
          clear H
          have H := H1
          clear H1
          exact absurd H (by simp)
        · replace c55 := Bool.eq_false_iff.mpr c55
          subst c55
          have H1 : ((laws_toFabric.f kj10 a0_0 l0_1).bind fun bt198 => ((laws_eqFabric.f kj10 t186 t187 bt198.1 bt198.2).bind fun t202 => (if t202 = true then ((laws_markFabric.f kj10 t186 t187 1).bind fun bt203 => (if bt203.1 < 0 then (laws_FnExactMirrorFabric.j1 kj10 t184 true a0_0 l0_1 t180 t181 t191 t192) else ((laws_eqFabric.f kj10 t191 t192 t180 t181).bind fun t205 => (if t205 = true then (laws_FnExactMirrorFabric.j1 kj10 t184 (t195 != t184) a0_0 l0_1 t180 t181 t191 t192) else (laws_FnExactMirrorFabric.j1 kj10 t184 true a0_0 l0_1 t180 t181 t191 t192))))) else (none)))) = some r := by rw [if_neg (show ¬ (false = true) by decide)] at H; exact H
          clear H
          have H := H1
          clear H1
          replace H := Option.bind_eq_some_iff.mp H
          obtain ⟨⟨t198, t199⟩, A560, H⟩ := H
          replace H : ((laws_eqFabric.f kj10 t186 t187 t198 t199).bind fun t202 => (if t202 = true then ((laws_markFabric.f kj10 t186 t187 1).bind fun bt203 => (if bt203.1 < 0 then (laws_FnExactMirrorFabric.j1 kj10 t184 true a0_0 l0_1 t180 t181 t191 t192) else ((laws_eqFabric.f kj10 t191 t192 t180 t181).bind fun t205 => (if t205 = true then (laws_FnExactMirrorFabric.j1 kj10 t184 (t195 != t184) a0_0 l0_1 t180 t181 t191 t192) else (laws_FnExactMirrorFabric.j1 kj10 t184 true a0_0 l0_1 t180 t181 t191 t192))))) else (none))) = some r := H
          have A56 := Aside0.mk A560
          clear A560
          replace H := Option.bind_eq_some_iff.mp H
          obtain ⟨t202, A570, H⟩ := H
          replace H : (if t202 = true then ((laws_markFabric.f kj10 t186 t187 1).bind fun bt203 => (if bt203.1 < 0 then (laws_FnExactMirrorFabric.j1 kj10 t184 true a0_0 l0_1 t180 t181 t191 t192) else ((laws_eqFabric.f kj10 t191 t192 t180 t181).bind fun t205 => (if t205 = true then (laws_FnExactMirrorFabric.j1 kj10 t184 (t195 != t184) a0_0 l0_1 t180 t181 t191 t192) else (laws_FnExactMirrorFabric.j1 kj10 t184 true a0_0 l0_1 t180 t181 t191 t192))))) else (none)) = some r := H
          have A57 := Aside0.mk A570
          clear A570
          by_cases c58 : t202 = true
          · subst c58
            have H1 : ((laws_markFabric.f kj10 t186 t187 1).bind fun bt203 => (if bt203.1 < 0 then (laws_FnExactMirrorFabric.j1 kj10 t184 true a0_0 l0_1 t180 t181 t191 t192) else ((laws_eqFabric.f kj10 t191 t192 t180 t181).bind fun t205 => (if t205 = true then (laws_FnExactMirrorFabric.j1 kj10 t184 (t195 != t184) a0_0 l0_1 t180 t181 t191 t192) else (laws_FnExactMirrorFabric.j1 kj10 t184 true a0_0 l0_1 t180 t181 t191 t192))))) = some r := by rw [if_pos rfl] at H; exact H
            clear H
            have H := H1
            clear H1
            replace H := Option.bind_eq_some_iff.mp H
            obtain ⟨⟨t203, t204⟩, A590, H⟩ := H
            replace H : (if t203 < 0 then (laws_FnExactMirrorFabric.j1 kj10 t184 true a0_0 l0_1 t180 t181 t191 t192) else ((laws_eqFabric.f kj10 t191 t192 t180 t181).bind fun t205 => (if t205 = true then (laws_FnExactMirrorFabric.j1 kj10 t184 (t195 != t184) a0_0 l0_1 t180 t181 t191 t192) else (laws_FnExactMirrorFabric.j1 kj10 t184 true a0_0 l0_1 t180 t181 t191 t192)))) = some r := H
            have A59 := Aside0.mk A590
            clear A590
            have HC60 := Aside0.mk H
            clear H
            try go_wp2
            have n0_ := Aside0.mk (Kd.R_drew HO_186001.out)
            have n1_ := Aside0.mk (Kd.R_drew HO_191001.out)
            have n2_ := Aside0.mk (Kd.R_drew HO_197001.out)
            have n3_ := Aside0.mk (blk_drew BK174.out)
            have n4_ := Aside0.mk (blk_drew BK185.out)
            have n5_ := Aside0.mk (blk_drew BK190.out)
            have n6_ := Aside0.mk (blk_drew BK196.out)
            have n7_ := Aside0.mk (below_drew1 HB.out)
            clear HO_186001
            clear HO_191001
            clear HO_197001
            clear BK174
            clear BK185
            clear BK190
            clear BK196
            clear HB
            have HO_186001 := n0_
            have HO_191001 := n1_
            have HO_197001 := n2_
            have BK174 := n3_
            have BK185 := n4_
            have BK190 := n5_
            have BK196 := n6_
            have HB := n7_
            clear n0_ n1_ n2_ n3_ n4_ n5_ n6_ n7_
            refine start_ (n := 5) (S := fun w' => w'.cell? ⟨gb190, 0, none⟩ = some (.int .i16 t186) ∧ w'.cell? ⟨gb190, 1, none⟩ = some (.slice Ao29 t187.length co29) ∧ w'.cell? ⟨gb174, 0, none⟩ = some (.int .i16 a0_0) ∧ w'.cell? ⟨gb174, 1, none⟩ = some (.slice A0_1 l0_1.length c0_1)) (ds := []) #[false, false, false, false, false] (by kernel_rfl) rfl rfl ⟨(blk_cell BK190.out 0).trans rfl, (blk_cell BK190.out 1).trans rfl, (blk_cell BK174.out 0).trans rfl, (blk_cell BK174.out 1).trans rfl⟩ (fun hHeld => ?_)
            generalize wc.drew = w61 at HO_186001 HO_191001 HO_197001 BK174 BK185 BK190 BK196 HB hHeld ⊢
            refine take_ (i := 0) (N := some 41) (v := ?_) (a' := ?_) #[true, false, false, false, false] rfl rfl (by kernel_rfl) (fun _ _ _ h => h) (Or.inl ⟨by rfl, ?_⟩) hHeld ?_ ?_
            rotate_left
            · rintro w' ⟨s0, s1, s2, s3⟩
              go_simp
              with_reducible rfl
            rotate_left
            · simp only [Act.put, List.setIfInBounds_toArray, List.set_cons_zero, List.set_cons_succ, i64_w, i32_w]
              rfl
            refine take_ (i := 1) (N := some 42) (v := ?_) (a' := ?_) #[true, true, false, false, false] rfl rfl (by kernel_rfl) (fun _ _ _ h => h) (Or.inl ⟨by rfl, ?_⟩) hHeld ?_ ?_
            rotate_left
            · rintro w' ⟨s0, s1, s2, s3⟩
              go_simp
              with_reducible rfl
            rotate_left
            · simp only [Act.put, List.setIfInBounds_toArray, List.set_cons_zero, List.set_cons_succ, i64_w, i32_w]
              rfl
            refine one_ (i := 2) (N := some 43) #[true, true, true, false, false] rfl rfl (by kernel_rfl) (by decide) (fun K hK => ?_)
            refine goes_ Try.func34 (by kernel_rfl) rfl #[.agg #[.int .i16 a0_0, .slice A0_1 l0_1.length c0_1]] (by rfl) rfl rfl (by (try simp only [List.map_toArray, List.map_cons, List.map_nil]); first | done | rfl | (simp only [List.length_drop, List.length_take]; rfl)) ?_
            with_reducible refine (laws_toFabric.calls kj10 a0_0 _ _ l0_1 t198 t199 _ ?side1 ?side2 A56.out).mono ?_
            (case side1 => repeat (first | exact (Kd.C_below HR0_1.out HB.out) | (with_reducible refine Kd.C_alloc ?_ _) | (with_reducible refine Kd.C_drewN ?_ _) | (with_reducible refine Kd.C_drew ?_)))
            (case side2 => exact HC0_1.out)
            rintro e w62 ⟨v200, rfl, ho0, hb⟩
            refine ⟨_, rfl, ?_⟩
            have n0_ := Aside0.mk (Kd.R_elder' (by (with_reducible repeat (first | apply Kd.R_alloc | apply Kd.R_drewN | apply Kd.R_drew)); exact HO_186001.out) (Kd.R_base ho0) hb)
            have n1_ := Aside0.mk (Kd.R_elder' (by (with_reducible repeat (first | apply Kd.R_alloc | apply Kd.R_drewN | apply Kd.R_drew)); exact HO_191001.out) (Kd.R_base ho0) hb)
            have n2_ := Aside0.mk (Kd.R_elder' (by (with_reducible repeat (first | apply Kd.R_alloc | apply Kd.R_drewN | apply Kd.R_drew)); exact HO_197001.out) (Kd.R_base ho0) hb)
            have n3_ := Aside0.mk (Kd.R_lower (Kd.R_new' (Kd.R_new' (Kd.R_new' ho0 (Kd.R_lt (by (with_reducible repeat (first | apply Kd.R_alloc | apply Kd.R_drewN | apply Kd.R_drew)); exact HO_186001.out))) (Kd.R_lt (by (with_reducible repeat (first | apply Kd.R_alloc | apply Kd.R_drewN | apply Kd.R_drew)); exact HO_191001.out))) (Kd.R_lt (by (with_reducible repeat (first | apply Kd.R_alloc | apply Kd.R_drewN | apply Kd.R_drew)); exact HO_197001.out))) (below_size (by repeat (first | (with_reducible first | exact HB.out | apply below_alloc | apply pw_below_drewN | apply below_drew1 | refine below_set ?_ GE174.out | refine below_set ?_ GE185.out | refine below_set ?_ GE190.out | refine below_set ?_ GE196.out) | exact HB.out))))
            have n4_ := Aside0.mk (blk_below (g := gb174) (o := .cells #[.int .i16 a0_0, .slice A0_1 l0_1.length c0_1] 55 (0, 0)) (by (with_reducible repeat (first | refine blk_drewN ?_ _ | refine blk_drew ?_ | refine blk_alloc ?_ _)); exact BK174.out) hb)
            have n5_ := Aside0.mk (blk_below (g := gb185) (o := .cells #[.int .i16 t180, .slice Ao22 t181.length co22] 57 (0, 0)) (by (with_reducible repeat (first | refine blk_drewN ?_ _ | refine blk_drew ?_ | refine blk_alloc ?_ _)); exact BK185.out) hb)
            have n6_ := Aside0.mk (blk_below (g := gb190) (o := .cells #[.int .i16 t186, .slice Ao29 t187.length co29] 57 (0, 0)) (by (with_reducible repeat (first | refine blk_drewN ?_ _ | refine blk_drew ?_ | refine blk_alloc ?_ _)); exact BK190.out) hb)
            have n7_ := Aside0.mk (blk_below (g := gb196) (o := .cells #[.int .i16 t191, .slice Ao36 t192.length co36] 57 (0, 0)) (by (with_reducible repeat (first | refine blk_drewN ?_ _ | refine blk_drew ?_ | refine blk_alloc ?_ _)); exact BK196.out) hb)
            have n8_ := Aside0.mk (below_step (by repeat (first | (with_reducible first | exact HB.out | apply below_alloc | apply pw_below_drewN | apply below_drew1 | refine below_set ?_ GE174.out | refine below_set ?_ GE185.out | refine below_set ?_ GE190.out | refine below_set ?_ GE196.out) | exact HB.out)) hb)
            clear HO_186001
            clear HO_191001
            clear HO_197001
            clear BK174
            clear BK185
            clear BK190
            clear BK196
            clear HB
            have HO_186001 := n0_
            have HO_191001 := n1_
            have HO_197001 := n2_
            have HO201 := n3_
            have BK174 := n4_
            have BK185 := n5_
            have BK190 := n6_
            have BK196 := n7_
            have HB := n8_
            clear n0_ n1_ n2_ n3_ n4_ n5_ n6_ n7_ n8_
            (try clear hb)
            (try clear hb2)
            (try clear hk)
            (try clear hi)
            (try clear ho0)
            obtain ⟨Ao63, co63, eo63⟩ := Kd.R_slice HO201.out
            (first | subst eo63 | (injection eo63 with f1_ f2_ f3_; have f4_ := f1_.symm; have f5_ := f3_.symm; clear f1_ f2_ f3_; subst f4_; subst f5_))
            refine hK.out _ _ ⟨(blk_cell BK190.out 0).trans rfl, (blk_cell BK190.out 1).trans rfl, (blk_cell BK174.out 0).trans rfl, (blk_cell BK174.out 1).trans rfl⟩ (fun hHeld => ?_)
            clear hK K
            refine norm_ (a' := ?_) ?_ ?_
            rotate_left
            · show Act.put _ (some 43) _ = _
              simp only [Act.put, List.setIfInBounds_toArray, List.set_cons_zero, List.set_cons_succ, i64_w, i32_w]
              rfl
            refine one_ (i := 3) (N := some 44) #[true, true, true, true, false] rfl rfl (by kernel_rfl) (by decide) (fun K hK => ?_)
            refine goes_ Try.func36 (by kernel_rfl) rfl #[.agg #[.int .i16 t186, .slice Ao29 t187.length co29], .agg #[.int .i16 t198, .slice Ao63 t199.length co63]] (by rfl) rfl rfl (by (try simp only [List.map_toArray, List.map_cons, List.map_nil]); first | done | rfl | (simp only [List.length_drop, List.length_take]; rfl)) ?_
            with_reducible refine (laws_eqFabric.calls kj10 t186 _ _ t187 t198 _ _ t199 true _ ?side1 ?side2 ?side3 ?side4 A57.out).mono ?_
            (case side1 => repeat (first | exact (Kd.R_reads' HO_191001.out).2.2 | (with_reducible refine Kd.C_alloc ?_ _) | (with_reducible refine Kd.C_drewN ?_ _) | (with_reducible refine Kd.C_drew ?_)))
            (case side2 => exact (Kd.R_reads' HO_191001.out).2.1)
            (case side3 => repeat (first | exact (Kd.R_reads' HO201.out).2.2 | (with_reducible refine Kd.C_alloc ?_ _) | (with_reducible refine Kd.C_drewN ?_ _) | (with_reducible refine Kd.C_drew ?_)))
            (case side4 => exact (Kd.R_reads' HO201.out).2.1)
            rintro e w64 ⟨rfl, hb⟩
            refine ⟨_, rfl, ?_⟩
            have n0_ := Aside0.mk (Kd.R_below (by (with_reducible repeat (first | apply Kd.R_alloc | apply Kd.R_drewN | apply Kd.R_drew)); exact HO_186001.out) hb)
            have n1_ := Aside0.mk (Kd.R_below (by (with_reducible repeat (first | apply Kd.R_alloc | apply Kd.R_drewN | apply Kd.R_drew)); exact HO_191001.out) hb)
            have n2_ := Aside0.mk (Kd.R_below (by (with_reducible repeat (first | apply Kd.R_alloc | apply Kd.R_drewN | apply Kd.R_drew)); exact HO_197001.out) hb)
            have n3_ := Aside0.mk (Kd.R_below (by (with_reducible repeat (first | apply Kd.R_alloc | apply Kd.R_drewN | apply Kd.R_drew)); exact HO201.out) hb)
            have n4_ := Aside0.mk (blk_below (g := gb174) (o := .cells #[.int .i16 a0_0, .slice A0_1 l0_1.length c0_1] 55 (0, 0)) (by (with_reducible repeat (first | refine blk_drewN ?_ _ | refine blk_drew ?_ | refine blk_alloc ?_ _)); exact BK174.out) hb)
            have n5_ := Aside0.mk (blk_below (g := gb185) (o := .cells #[.int .i16 t180, .slice Ao22 t181.length co22] 57 (0, 0)) (by (with_reducible repeat (first | refine blk_drewN ?_ _ | refine blk_drew ?_ | refine blk_alloc ?_ _)); exact BK185.out) hb)
            have n6_ := Aside0.mk (blk_below (g := gb190) (o := .cells #[.int .i16 t186, .slice Ao29 t187.length co29] 57 (0, 0)) (by (with_reducible repeat (first | refine blk_drewN ?_ _ | refine blk_drew ?_ | refine blk_alloc ?_ _)); exact BK190.out) hb)
            have n7_ := Aside0.mk (blk_below (g := gb196) (o := .cells #[.int .i16 t191, .slice Ao36 t192.length co36] 57 (0, 0)) (by (with_reducible repeat (first | refine blk_drewN ?_ _ | refine blk_drew ?_ | refine blk_alloc ?_ _)); exact BK196.out) hb)
            have n8_ := Aside0.mk (below_step (by repeat (first | (with_reducible first | exact HB.out | apply below_alloc | apply pw_below_drewN | apply below_drew1 | refine below_set ?_ GE174.out | refine below_set ?_ GE185.out | refine below_set ?_ GE190.out | refine below_set ?_ GE196.out) | exact HB.out)) hb)
            clear HO_186001
            clear HO_191001
            clear HO_197001
            clear HO201
            clear BK174
            clear BK185
            clear BK190
            clear BK196
            clear HB
            have HO_186001 := n0_
            have HO_191001 := n1_
            have HO_197001 := n2_
            have HO201 := n3_
            have BK174 := n4_
            have BK185 := n5_
            have BK190 := n6_
            have BK196 := n7_
            have HB := n8_
            clear n0_ n1_ n2_ n3_ n4_ n5_ n6_ n7_ n8_
            (try clear hb)
            (try clear hb2)
            (try clear hk)
            (try clear hi)
            refine hK.out _ _ ⟨(blk_cell BK190.out 0).trans rfl, (blk_cell BK190.out 1).trans rfl, (blk_cell BK174.out 0).trans rfl, (blk_cell BK174.out 1).trans rfl⟩ (fun hHeld => ?_)
            clear hK K
            refine norm_ (a' := ?_) ?_ ?_
            rotate_left
            · show Act.put _ (some 44) _ = _
              simp only [Act.put, List.setIfInBounds_toArray, List.set_cons_zero, List.set_cons_succ, i64_w, i32_w]
              rfl
            refine pure_ (i := 4) (N := some 45) (v := ?_) (a' := ?_) #[true, true, true, true, true] rfl rfl (by kernel_rfl) (fun _ _ _ h => h) (Or.inl ⟨by rfl, ?_⟩) ?_ ?_
            rotate_left
            · intro w'
              go_simp
              with_reducible rfl
            rotate_left
            · simp only [Act.put, List.setIfInBounds_toArray, List.set_cons_zero, List.set_cons_succ, i64_w, i32_w]
              rfl
            refine done_ (by kernel_rfl) ?_
            have hnb65 := NB190_174.out
            have hnc65 := NB174_190.out
            have hnb66 := NB190_185.out
            have hnc66 := NB185_190.out
            have hnb67 := NB190_196.out
            have hnc67 := NB196_190.out
            have hcz68_0 : w64.cell? ⟨gb190, 0, none⟩ = some (.int .i16 t186) := (blk_cell BK190.out 0).trans rfl
            have hcz68_1 : w64.cell? ⟨gb190, 1, none⟩ = some (.slice Ao29 t187.length co29) := (blk_cell BK190.out 1).trans rfl
            have hfz68_0 := blk_frozen BK190.out 0
            have hfz68_1 := blk_frozen BK190.out 1
            go_upto_region 14 with (first | ((with_reducible refine gate_callee (f := 37) rfl ?_); refine goesL_ (some 48) rfl rfl Try.func37 (by kernel_rfl) rfl #[.agg #[.int .i16 t186, .slice Ao29 t187.length co29], .int .i64 1] rfl (by (try simp only [List.map_toArray, List.map_cons, List.map_nil]); first | done | rfl | (simp only [List.length_drop, List.length_take]; rfl)) ?_; (with_reducible refine (laws_markFabric.calls kj10 t186 (fun k_ => some k_ = (.slice Ao29 t187.length co29 : Value).ownBlock) (.slice Ao29 t187.length co29) t187 1 t203 t204 w _ ?side1 ?side2 A59.out).mono ?_); (case side1 => repeat (first | (with_reducible first | exact HB.out | apply below_alloc | apply pw_below_drewN | apply below_drew1 | refine below_set ?_ GE174.out | refine below_set ?_ GE185.out | refine below_set ?_ GE190.out | refine below_set ?_ GE196.out) | exact HB.out)); (case side2 => exact Kd.R_tight rfl HO_191001.out); rintro e w69 ⟨rfl, hy0, hb, hkp⟩; refine ⟨_, rfl, ?_⟩; have n0_ := Aside0.mk (Kd.R_mono (ok' := fun k_ => some k_ ≠ (.slice Ao29 t187.length co29 : Value).ownBlock ∧ some k_ ≠ (.slice Ao36 t192.length co36 : Value).ownBlock ∧ some k_ ≠ (.slice Ao63 t199.length co63 : Value).ownBlock) (Kd.R_keptB (HO_186001.out) hkp (fun k_ hk_ hs_ => (hk_.1.1) hs_)) (fun k_ hk_ => ⟨hk_.1.1.1, hk_.1.1.2, hk_.1.2⟩)); have n1_ := Aside0.mk (Kd.R_reok rfl hy0 (fun k_ e_ => HO_191001.out.1 k_ e_)); have n2_ := Aside0.mk (Kd.R_mono (ok' := fun k_ => some k_ ≠ (.slice Ao22 t181.length co22 : Value).ownBlock ∧ some k_ ≠ (.slice Ao29 t187.length co29 : Value).ownBlock ∧ some k_ ≠ (.slice Ao63 t199.length co63 : Value).ownBlock) (Kd.R_keptB (HO_197001.out) hkp (fun k_ hk_ hs_ => (hk_.1.2) hs_)) (fun k_ hk_ => ⟨hk_.1.1.1, hk_.1.1.2, hk_.1.2⟩)); have n3_ := Aside0.mk (blk_kept (by (with_reducible repeat (first | refine blk_drewN ?_ _ | refine blk_drew ?_ | refine blk_alloc ?_ _)); exact BK174.out) hkp (fun hs_ => (fun e_ => (Kd.R_ne HO_191001.out BK174.out (by decide)) e_) hs_)); have n4_ := Aside0.mk (blk_kept (by (with_reducible repeat (first | refine blk_drewN ?_ _ | refine blk_drew ?_ | refine blk_alloc ?_ _)); exact BK185.out) hkp (fun hs_ => (fun e_ => (Kd.R_ne HO_191001.out BK185.out (by decide)) e_) hs_)); have n5_ := Aside0.mk (blk_kept (by (with_reducible repeat (first | refine blk_drewN ?_ _ | refine blk_drew ?_ | refine blk_alloc ?_ _)); exact BK190.out) hkp (fun hs_ => (fun e_ => (Kd.R_ne HO_191001.out BK190.out (by decide)) e_) hs_)); have n6_ := Aside0.mk (blk_kept (by (with_reducible repeat (first | refine blk_drewN ?_ _ | refine blk_drew ?_ | refine blk_alloc ?_ _)); exact BK196.out) hkp (fun hs_ => (fun e_ => (Kd.R_ne HO_191001.out BK196.out (by decide)) e_) hs_)); have n7_ := Aside0.mk (Kd.R_mono (ok' := fun k_ => some k_ ≠ (.slice Ao22 t181.length co22 : Value).ownBlock ∧ some k_ ≠ (.slice Ao29 t187.length co29 : Value).ownBlock ∧ some k_ ≠ (.slice Ao36 t192.length co36 : Value).ownBlock) (Kd.R_keptB (HO201.out) hkp (fun k_ hk_ hs_ => (hk_.1.2) hs_)) (fun k_ hk_ => ⟨hk_.1.1.1.2, hk_.1.1.2, hk_.1.2⟩)); have n8_ := Aside0.mk (hb); clear HO_186001; clear HO_191001; clear HO_197001; clear BK174; clear BK185; clear BK190; clear BK196; clear HO201; clear HB; have HO_186001 := n0_; have HO_191001 := n1_; have HO_197001 := n2_; have BK174 := n3_; have BK185 := n4_; have BK190 := n5_; have BK196 := n6_; have HO201 := n7_; have HB := n8_; clear n0_ n1_ n2_ n3_ n4_ n5_ n6_ n7_ n8_; (try clear hb); (try clear hkp); (try clear hy0)))
            (try simp only [Act.put, List.setIfInBounds_toArray, List.set_cons_zero, List.set_cons_succ])
            go_cut [61] (fun v61 wc => ∃ (kq : Nat) (x61_59 : Bool), v61 = .bool x61_59 ∧ Aside0 (laws_FnExactMirrorFabric.j1 kq t184 x61_59 a0_0 l0_1 t180 t181 t191 t192 = some r) ∧ Aside0 (kq ≤ kj10) ∧ Aside0 (Kd.R Kd.string 9 wc w.heap.size (fun k_ => some k_ ≠ ((.slice Ao29 t187.length co29) : Value).ownBlock ∧ some k_ ≠ ((.slice Ao36 t192.length co36) : Value).ownBlock) (.slice Ao22 t181.length co22) t181) ∧ Aside0 (Kd.R Kd.string 9 wc w.heap.size (fun k_ => some k_ ≠ ((.slice Ao22 t181.length co22) : Value).ownBlock ∧ some k_ ≠ ((.slice Ao36 t192.length co36) : Value).ownBlock) (.slice Ao29 t187.length co29) t204) ∧ Aside0 (Kd.R Kd.string 9 wc w.heap.size (fun k_ => some k_ ≠ ((.slice Ao22 t181.length co22) : Value).ownBlock ∧ some k_ ≠ ((.slice Ao29 t187.length co29) : Value).ownBlock) (.slice Ao36 t192.length co36) t192) ∧ Aside0 (wc.heap[gb174]? = some (.cells #[.int .i16 a0_0, (.slice A0_1 l0_1.length c0_1)] 55 (0, 0))) ∧ Aside0 (wc.heap[gb185]? = some (.cells #[.int .i16 t180, (.slice Ao22 t181.length co22)] 57 (0, 0))) ∧ Aside0 (wc.heap[gb190]? = some (.cells #[.int .i16 t186, (.slice Ao29 t187.length co29)] 57 (0, 0))) ∧ Aside0 (wc.heap[gb196]? = some (.cells #[.int .i16 t191, (.slice Ao36 t192.length co36)] 57 (0, 0))) ∧ Aside0 (Below w.heap.size w wc))
            case first =>
              as_aux_lemma =>
              have H := HC60.out
              clear HC60
              by_cases c70 : t203 < 0
              · rw [if_pos c70] at H
                have c70b0 : decide (t203 < 0) = true := decide_eq_true c70
                clear c70
                (first | rw [c70b0] | (simp only [i64_w, i32_w]; rw [c70b0]) | skip)
                have H' := Aside0.mk H
                clear H
                go_wp2
                go_meet
                case rel => exact ⟨_, (true), (by first | rfl | (simp; done) | (simp [*]; done)), H', ⟨by have := HJ10.out; first | omega | exact Nat.le_refl _⟩, ⟨by (with_reducible repeat (first | apply Kd.R_alloc | apply Kd.R_drewN | apply Kd.R_drew)); exact Kd.R_mono HO_186001.out (fun _ hk => ⟨hk.1, hk.2.1⟩)⟩, ⟨by (with_reducible repeat (first | apply Kd.R_alloc | apply Kd.R_drewN | apply Kd.R_drew)); exact Kd.R_mono HO_191001.out (fun _ hk => ⟨hk.1.1, hk.1.2⟩)⟩, ⟨by (with_reducible repeat (first | apply Kd.R_alloc | apply Kd.R_drewN | apply Kd.R_drew)); exact Kd.R_mono HO_197001.out (fun _ hk => ⟨hk.1, hk.2.1⟩)⟩, ⟨by (with_reducible repeat (first | refine blk_drewN ?_ _ | refine blk_drew ?_ | refine blk_alloc ?_ _)); exact BK174.out⟩, ⟨by (with_reducible repeat (first | refine blk_drewN ?_ _ | refine blk_drew ?_ | refine blk_alloc ?_ _)); exact BK185.out⟩, ⟨by (with_reducible repeat (first | refine blk_drewN ?_ _ | refine blk_drew ?_ | refine blk_alloc ?_ _)); exact BK190.out⟩, ⟨by (with_reducible repeat (first | refine blk_drewN ?_ _ | refine blk_drew ?_ | refine blk_alloc ?_ _)); exact BK196.out⟩, ⟨by repeat (first | (with_reducible first | exact HB.out | apply below_alloc | apply pw_below_drewN | apply below_drew1 | refine below_set ?_ GE174.out | refine below_set ?_ GE185.out | refine below_set ?_ GE190.out | refine below_set ?_ GE196.out) | exact HB.out)⟩⟩
              · rw [if_neg c70] at H
                have c70b0 : decide (t203 < 0) = false := decide_eq_false c70
                clear c70
                (first | rw [c70b0] | (simp only [i64_w, i32_w]; rw [c70b0]) | skip)
                replace H := Option.bind_eq_some_iff.mp H
                obtain ⟨t205, A710, H⟩ := H
                replace H : (if t205 = true then (laws_FnExactMirrorFabric.j1 kj10 t184 (t195 != t184) a0_0 l0_1 t180 t181 t191 t192) else (laws_FnExactMirrorFabric.j1 kj10 t184 true a0_0 l0_1 t180 t181 t191 t192)) = some r := H
                have A71 := Aside0.mk A710
                clear A710
                by_cases c72 : t205 = true
                · subst c72
                  have H1 : (laws_FnExactMirrorFabric.j1 kj10 t184 (t195 != t184) a0_0 l0_1 t180 t181 t191 t192) = some r := by rw [if_pos rfl] at H; exact H
                  clear H
                  have H := H1
                  clear H1
                  have H' := Aside0.mk H
                  clear H
                  have hnb73 := NB196_174.out
                  have hnc73 := NB174_196.out
                  have hnb74 := NB196_185.out
                  have hnc74 := NB185_196.out
                  have hnb75 := NB196_190.out
                  have hnc75 := NB190_196.out
                  have hcz76_0 : w69.cell? ⟨gb196, 0, none⟩ = some (.int .i16 t191) := (blk_cell BK196.out 0).trans rfl
                  have hcz76_1 : w69.cell? ⟨gb196, 1, none⟩ = some (.slice Ao36 t192.length co36) := (blk_cell BK196.out 1).trans rfl
                  have hfz76_0 := blk_frozen BK196.out 0
                  have hfz76_1 := blk_frozen BK196.out 1
                  have hnb77 := NB185_174.out
                  have hnc77 := NB174_185.out
                  have hnb78 := NB185_190.out
                  have hnc78 := NB190_185.out
                  have hcz79_0 : w69.cell? ⟨gb185, 0, none⟩ = some (.int .i16 t180) := (blk_cell BK185.out 0).trans rfl
                  have hcz79_1 : w69.cell? ⟨gb185, 1, none⟩ = some (.slice Ao22 t181.length co22) := (blk_cell BK185.out 1).trans rfl
                  have hfz79_0 := blk_frozen BK185.out 0
                  have hfz79_1 := blk_frozen BK185.out 1
                  go_wp2_with (first | (go_at_call 36; (with_reducible refine (laws_eqFabric.calls kj10 t191 _ _ t192 t180 _ _ t181 true _ ?side1 ?side2 ?side3 ?side4 A71.out).mono ?_); (case side1 => repeat (first | exact (Kd.R_reads' HO_197001.out).2.2 | (with_reducible refine Kd.C_alloc ?_ _) | (with_reducible refine Kd.C_drewN ?_ _) | (with_reducible refine Kd.C_drew ?_))); (case side2 => exact (Kd.R_reads' HO_197001.out).2.1); (case side3 => repeat (first | exact (Kd.R_reads' HO_186001.out).2.2 | (with_reducible refine Kd.C_alloc ?_ _) | (with_reducible refine Kd.C_drewN ?_ _) | (with_reducible refine Kd.C_drew ?_))); (case side4 => exact (Kd.R_reads' HO_186001.out).2.1); rintro e w80 ⟨rfl, hb⟩; have n0_ := Aside0.mk (Kd.R_below (by (with_reducible repeat (first | apply Kd.R_alloc | apply Kd.R_drewN | apply Kd.R_drew)); exact HO_186001.out) hb); have n1_ := Aside0.mk (Kd.R_below (by (with_reducible repeat (first | apply Kd.R_alloc | apply Kd.R_drewN | apply Kd.R_drew)); exact HO_191001.out) hb); have n2_ := Aside0.mk (Kd.R_below (by (with_reducible repeat (first | apply Kd.R_alloc | apply Kd.R_drewN | apply Kd.R_drew)); exact HO_197001.out) hb); have n3_ := Aside0.mk (Kd.R_below (by (with_reducible repeat (first | apply Kd.R_alloc | apply Kd.R_drewN | apply Kd.R_drew)); exact HO201.out) hb); have n4_ := Aside0.mk (blk_below (g := gb174) (o := .cells #[.int .i16 a0_0, .slice A0_1 l0_1.length c0_1] 55 (0, 0)) (by (with_reducible repeat (first | refine blk_drewN ?_ _ | refine blk_drew ?_ | refine blk_alloc ?_ _)); exact BK174.out) hb); have n5_ := Aside0.mk (blk_below (g := gb185) (o := .cells #[.int .i16 t180, .slice Ao22 t181.length co22] 57 (0, 0)) (by (with_reducible repeat (first | refine blk_drewN ?_ _ | refine blk_drew ?_ | refine blk_alloc ?_ _)); exact BK185.out) hb); have n6_ := Aside0.mk (blk_below (g := gb190) (o := .cells #[.int .i16 t186, .slice Ao29 t187.length co29] 57 (0, 0)) (by (with_reducible repeat (first | refine blk_drewN ?_ _ | refine blk_drew ?_ | refine blk_alloc ?_ _)); exact BK190.out) hb); have n7_ := Aside0.mk (blk_below (g := gb196) (o := .cells #[.int .i16 t191, .slice Ao36 t192.length co36] 57 (0, 0)) (by (with_reducible repeat (first | refine blk_drewN ?_ _ | refine blk_drew ?_ | refine blk_alloc ?_ _)); exact BK196.out) hb); have n8_ := Aside0.mk (below_step (by repeat (first | (with_reducible first | exact HB.out | apply below_alloc | apply pw_below_drewN | apply below_drew1 | refine below_set ?_ GE174.out | refine below_set ?_ GE185.out | refine below_set ?_ GE190.out | refine below_set ?_ GE196.out) | exact HB.out)) hb); clear HO_186001; clear HO_191001; clear HO_197001; clear HO201; clear BK174; clear BK185; clear BK190; clear BK196; clear HB; have HO_186001 := n0_; have HO_191001 := n1_; have HO_197001 := n2_; have HO201 := n3_; have BK174 := n4_; have BK185 := n5_; have BK190 := n6_; have BK196 := n7_; have HB := n8_; clear n0_ n1_ n2_ n3_ n4_ n5_ n6_ n7_ n8_; (try clear hb); (try clear hb2); (try clear hk); (try clear hi)))
                  go_meet
                  case rel => exact ⟨_, ((t195 != t184)), (by first | rfl | (simp; done) | (simp [*]; done)), H', ⟨by have := HJ10.out; first | omega | exact Nat.le_refl _⟩, ⟨by (with_reducible repeat (first | apply Kd.R_alloc | apply Kd.R_drewN | apply Kd.R_drew)); exact Kd.R_mono HO_186001.out (fun _ hk => ⟨hk.1, hk.2.1⟩)⟩, ⟨by (with_reducible repeat (first | apply Kd.R_alloc | apply Kd.R_drewN | apply Kd.R_drew)); exact Kd.R_mono HO_191001.out (fun _ hk => ⟨hk.1.1, hk.1.2⟩)⟩, ⟨by (with_reducible repeat (first | apply Kd.R_alloc | apply Kd.R_drewN | apply Kd.R_drew)); exact Kd.R_mono HO_197001.out (fun _ hk => ⟨hk.1, hk.2.1⟩)⟩, ⟨by (with_reducible repeat (first | refine blk_drewN ?_ _ | refine blk_drew ?_ | refine blk_alloc ?_ _)); exact BK174.out⟩, ⟨by (with_reducible repeat (first | refine blk_drewN ?_ _ | refine blk_drew ?_ | refine blk_alloc ?_ _)); exact BK185.out⟩, ⟨by (with_reducible repeat (first | refine blk_drewN ?_ _ | refine blk_drew ?_ | refine blk_alloc ?_ _)); exact BK190.out⟩, ⟨by (with_reducible repeat (first | refine blk_drewN ?_ _ | refine blk_drew ?_ | refine blk_alloc ?_ _)); exact BK196.out⟩, ⟨by repeat (first | (with_reducible first | exact HB.out | apply below_alloc | apply pw_below_drewN | apply below_drew1 | refine below_set ?_ GE174.out | refine below_set ?_ GE185.out | refine below_set ?_ GE190.out | refine below_set ?_ GE196.out) | exact HB.out)⟩⟩
                · replace c72 := Bool.eq_false_iff.mpr c72
                  subst c72
                  have H1 : (laws_FnExactMirrorFabric.j1 kj10 t184 true a0_0 l0_1 t180 t181 t191 t192) = some r := by rw [if_neg (show ¬ (false = true) by decide)] at H; exact H
                  clear H
                  have H := H1
                  clear H1
                  have H' := Aside0.mk H
                  clear H
                  have hnb81 := NB196_174.out
                  have hnc81 := NB174_196.out
                  have hnb82 := NB196_185.out
                  have hnc82 := NB185_196.out
                  have hnb83 := NB196_190.out
                  have hnc83 := NB190_196.out
                  have hcz84_0 : w69.cell? ⟨gb196, 0, none⟩ = some (.int .i16 t191) := (blk_cell BK196.out 0).trans rfl
                  have hcz84_1 : w69.cell? ⟨gb196, 1, none⟩ = some (.slice Ao36 t192.length co36) := (blk_cell BK196.out 1).trans rfl
                  have hfz84_0 := blk_frozen BK196.out 0
                  have hfz84_1 := blk_frozen BK196.out 1
                  have hnb85 := NB185_174.out
                  have hnc85 := NB174_185.out
                  have hnb86 := NB185_190.out
                  have hnc86 := NB190_185.out
                  have hcz87_0 : w69.cell? ⟨gb185, 0, none⟩ = some (.int .i16 t180) := (blk_cell BK185.out 0).trans rfl
                  have hcz87_1 : w69.cell? ⟨gb185, 1, none⟩ = some (.slice Ao22 t181.length co22) := (blk_cell BK185.out 1).trans rfl
                  have hfz87_0 := blk_frozen BK185.out 0
                  have hfz87_1 := blk_frozen BK185.out 1
                  go_wp2_with (first | (go_at_call 36; (with_reducible refine (laws_eqFabric.calls kj10 t191 _ _ t192 t180 _ _ t181 false _ ?side1 ?side2 ?side3 ?side4 A71.out).mono ?_); (case side1 => repeat (first | exact (Kd.R_reads' HO_197001.out).2.2 | (with_reducible refine Kd.C_alloc ?_ _) | (with_reducible refine Kd.C_drewN ?_ _) | (with_reducible refine Kd.C_drew ?_))); (case side2 => exact (Kd.R_reads' HO_197001.out).2.1); (case side3 => repeat (first | exact (Kd.R_reads' HO_186001.out).2.2 | (with_reducible refine Kd.C_alloc ?_ _) | (with_reducible refine Kd.C_drewN ?_ _) | (with_reducible refine Kd.C_drew ?_))); (case side4 => exact (Kd.R_reads' HO_186001.out).2.1); rintro e w88 ⟨rfl, hb⟩; have n0_ := Aside0.mk (Kd.R_below (by (with_reducible repeat (first | apply Kd.R_alloc | apply Kd.R_drewN | apply Kd.R_drew)); exact HO_186001.out) hb); have n1_ := Aside0.mk (Kd.R_below (by (with_reducible repeat (first | apply Kd.R_alloc | apply Kd.R_drewN | apply Kd.R_drew)); exact HO_191001.out) hb); have n2_ := Aside0.mk (Kd.R_below (by (with_reducible repeat (first | apply Kd.R_alloc | apply Kd.R_drewN | apply Kd.R_drew)); exact HO_197001.out) hb); have n3_ := Aside0.mk (Kd.R_below (by (with_reducible repeat (first | apply Kd.R_alloc | apply Kd.R_drewN | apply Kd.R_drew)); exact HO201.out) hb); have n4_ := Aside0.mk (blk_below (g := gb174) (o := .cells #[.int .i16 a0_0, .slice A0_1 l0_1.length c0_1] 55 (0, 0)) (by (with_reducible repeat (first | refine blk_drewN ?_ _ | refine blk_drew ?_ | refine blk_alloc ?_ _)); exact BK174.out) hb); have n5_ := Aside0.mk (blk_below (g := gb185) (o := .cells #[.int .i16 t180, .slice Ao22 t181.length co22] 57 (0, 0)) (by (with_reducible repeat (first | refine blk_drewN ?_ _ | refine blk_drew ?_ | refine blk_alloc ?_ _)); exact BK185.out) hb); have n6_ := Aside0.mk (blk_below (g := gb190) (o := .cells #[.int .i16 t186, .slice Ao29 t187.length co29] 57 (0, 0)) (by (with_reducible repeat (first | refine blk_drewN ?_ _ | refine blk_drew ?_ | refine blk_alloc ?_ _)); exact BK190.out) hb); have n7_ := Aside0.mk (blk_below (g := gb196) (o := .cells #[.int .i16 t191, .slice Ao36 t192.length co36] 57 (0, 0)) (by (with_reducible repeat (first | refine blk_drewN ?_ _ | refine blk_drew ?_ | refine blk_alloc ?_ _)); exact BK196.out) hb); have n8_ := Aside0.mk (below_step (by repeat (first | (with_reducible first | exact HB.out | apply below_alloc | apply pw_below_drewN | apply below_drew1 | refine below_set ?_ GE174.out | refine below_set ?_ GE185.out | refine below_set ?_ GE190.out | refine below_set ?_ GE196.out) | exact HB.out)) hb); clear HO_186001; clear HO_191001; clear HO_197001; clear HO201; clear BK174; clear BK185; clear BK190; clear BK196; clear HB; have HO_186001 := n0_; have HO_191001 := n1_; have HO_197001 := n2_; have HO201 := n3_; have BK174 := n4_; have BK185 := n5_; have BK190 := n6_; have BK196 := n7_; have HB := n8_; clear n0_ n1_ n2_ n3_ n4_ n5_ n6_ n7_ n8_; (try clear hb); (try clear hb2); (try clear hk); (try clear hi)))
                  go_meet
                  case rel => exact ⟨_, (true), (by first | rfl | (simp; done) | (simp [*]; done)), H', ⟨by have := HJ10.out; first | omega | exact Nat.le_refl _⟩, ⟨by (with_reducible repeat (first | apply Kd.R_alloc | apply Kd.R_drewN | apply Kd.R_drew)); exact Kd.R_mono HO_186001.out (fun _ hk => ⟨hk.1, hk.2.1⟩)⟩, ⟨by (with_reducible repeat (first | apply Kd.R_alloc | apply Kd.R_drewN | apply Kd.R_drew)); exact Kd.R_mono HO_191001.out (fun _ hk => ⟨hk.1.1, hk.1.2⟩)⟩, ⟨by (with_reducible repeat (first | apply Kd.R_alloc | apply Kd.R_drewN | apply Kd.R_drew)); exact Kd.R_mono HO_197001.out (fun _ hk => ⟨hk.1, hk.2.1⟩)⟩, ⟨by (with_reducible repeat (first | refine blk_drewN ?_ _ | refine blk_drew ?_ | refine blk_alloc ?_ _)); exact BK174.out⟩, ⟨by (with_reducible repeat (first | refine blk_drewN ?_ _ | refine blk_drew ?_ | refine blk_alloc ?_ _)); exact BK185.out⟩, ⟨by (with_reducible repeat (first | refine blk_drewN ?_ _ | refine blk_drew ?_ | refine blk_alloc ?_ _)); exact BK190.out⟩, ⟨by (with_reducible repeat (first | refine blk_drewN ?_ _ | refine blk_drew ?_ | refine blk_alloc ?_ _)); exact BK196.out⟩, ⟨by repeat (first | (with_reducible first | exact HB.out | apply below_alloc | apply pw_below_drewN | apply below_drew1 | refine below_set ?_ GE174.out | refine below_set ?_ GE185.out | refine below_set ?_ GE190.out | refine below_set ?_ GE196.out) | exact HB.out)⟩⟩
            case rest =>
              as_aux_lemma =>
              clear HC60
              try clear c2
              try clear p2
              try clear c3
              try clear c3b0
              try clear c4
              try clear c5
              try clear c6
              try clear c7
              try clear c8
              try clear c20
              try clear c26
              try clear c27
              try clear c32
              try clear c33
              try clear c34
              try clear c35
              try clear c36
              try clear c37
              try clear c38
              try clear c39
              try clear c40
              try clear c41
              try clear c43
              try clear c44
              try clear c47
              try clear c48
              try clear c49
              try clear c51
              try clear c52
              try clear c55
              try clear c58
              try clear c65
              try clear c66
              try clear c67
              try clear c70
              try clear c70b0
              try clear c72
              try clear c73
              try clear c74
              try clear c75
              try clear c77
              try clear c78
              try clear c81
              try clear c82
              try clear c83
              try clear c85
              try clear c86
              try clear hcz13_0
              try clear hcz13_1
              try clear hcz15_0
              try clear hcz15_1
              try clear hcz21_0
              try clear hcz21_1
              try clear hcz23_0
              try clear hcz23_1
              try clear hcz28_0
              try clear hcz28_1
              try clear hcz35_0
              try clear hcz35_1
              try clear hcz42_0
              try clear hcz42_1
              try clear hcz45_0
              try clear hcz45_1
              try clear hcz50_0
              try clear hcz50_1
              try clear hcz53_0
              try clear hcz53_1
              try clear hcz5_0
              try clear hcz5_1
              try clear hcz68_0
              try clear hcz68_1
              try clear hcz76_0
              try clear hcz76_1
              try clear hcz79_0
              try clear hcz79_1
              try clear hcz84_0
              try clear hcz84_1
              try clear hcz87_0
              try clear hcz87_1
              try clear hfz13_0
              try clear hfz13_1
              try clear hfz15_0
              try clear hfz15_1
              try clear hfz21_0
              try clear hfz21_1
              try clear hfz23_0
              try clear hfz23_1
              try clear hfz28_0
              try clear hfz28_1
              try clear hfz35_0
              try clear hfz35_1
              try clear hfz42_0
              try clear hfz42_1
              try clear hfz45_0
              try clear hfz45_1
              try clear hfz50_0
              try clear hfz50_1
              try clear hfz53_0
              try clear hfz53_1
              try clear hfz5_0
              try clear hfz5_1
              try clear hfz68_0
              try clear hfz68_1
              try clear hfz76_0
              try clear hfz76_1
              try clear hfz79_0
              try clear hfz79_1
              try clear hfz84_0
              try clear hfz84_1
              try clear hfz87_0
              try clear hfz87_1
              try clear p2
              obtain ⟨kq, x61_59, rfl, HA, HJ59, HO_186001, HO_191001, HO_197001, BK174, BK185, BK190, BK196, HB⟩ := hcut
              have hl191001_59 := (Kd.R_reads' HO_191001.out).1
              rw [hl191001_59] at HO_191001
              (try simp only [hl191001_59])
              (try simp only [hl191001_59] at BK174)
              (try simp only [hl191001_59] at BK185)
              (try simp only [hl191001_59] at BK190)
              (try simp only [hl191001_59] at BK196)
              (try simp only [hl191001_59] at HO_186001)
              (try simp only [hl191001_59] at HO_197001)
              cases kq with
              | zero => exact absurd HA.out (by simp [laws_FnExactMirrorFabric.j1])
              | succ kj59 =>
                have H := HA.out
                clear HA
                simp only [laws_FnExactMirrorFabric.j1] at H
                by_cases c89 : x61_59 = true
                · subst c89
                  have H1 : (none) = some r := by rw [if_pos rfl] at H; exact H
                  clear H
                  have H := H1
                  clear H1
                  exact absurd H (by simp)
                · replace c89 := Bool.eq_false_iff.mpr c89
                  subst c89
                  have H1 : ((laws_markFabric.f kj59 t191 t192 1).bind fun bt206 => ((laws_heldFabric.f kj59 t191 bt206.2 1).bind fun t208 => (if t208 < 0 then (none) else (if t208 = bt206.1 then ((laws_toFabric.f kj59 a0_0 l0_1).bind fun bt209 => ((impl_MirrorFabric.f kj59 bt209.1 bt209.2).bind fun bt213 => ((laws_eqFabric.f kj59 bt213.1 bt213.2.1 t180 t181).bind fun t219 => (if t219 = true then (laws_FnExactMirrorFabric.j2 kj59 bt206.1 (bt213.2.2 != t184) t191 bt206.2) else (laws_FnExactMirrorFabric.j2 kj59 bt206.1 true t191 bt206.2))))) else (none))))) = some r := by rw [if_neg (show ¬ (false = true) by decide)] at H; exact H
                  clear H
                  have H := H1
                  clear H1
                  replace H := Option.bind_eq_some_iff.mp H
                  obtain ⟨⟨t206, t207⟩, A900, H⟩ := H
                  replace H : ((laws_heldFabric.f kj59 t191 t207 1).bind fun t208 => (if t208 < 0 then (none) else (if t208 = t206 then ((laws_toFabric.f kj59 a0_0 l0_1).bind fun bt209 => ((impl_MirrorFabric.f kj59 bt209.1 bt209.2).bind fun bt213 => ((laws_eqFabric.f kj59 bt213.1 bt213.2.1 t180 t181).bind fun t219 => (if t219 = true then (laws_FnExactMirrorFabric.j2 kj59 t206 (bt213.2.2 != t184) t191 t207) else (laws_FnExactMirrorFabric.j2 kj59 t206 true t191 t207))))) else (none)))) = some r := H
                  have A90 := Aside0.mk A900
                  clear A900
                  replace H := Option.bind_eq_some_iff.mp H
                  obtain ⟨t208, A910, H⟩ := H
                  replace H : (if t208 < 0 then (none) else (if t208 = t206 then ((laws_toFabric.f kj59 a0_0 l0_1).bind fun bt209 => ((impl_MirrorFabric.f kj59 bt209.1 bt209.2).bind fun bt213 => ((laws_eqFabric.f kj59 bt213.1 bt213.2.1 t180 t181).bind fun t219 => (if t219 = true then (laws_FnExactMirrorFabric.j2 kj59 t206 (bt213.2.2 != t184) t191 t207) else (laws_FnExactMirrorFabric.j2 kj59 t206 true t191 t207))))) else (none))) = some r := H
                  have A91 := Aside0.mk A910
                  clear A910
                  by_cases c92 : t208 < 0
                  · rw [if_pos c92] at H
                    exact absurd H (by simp)
                  · rw [if_neg c92] at H
                    have c92b0 : decide (t208 < 0) = false := decide_eq_false c92
                    clear c92
                    by_cases c93 : t208 = t206
                    · rw [if_pos c93] at H
                      have c93b0 : (t208 == t206) = true := beq_iff_eq.mpr c93
                      have c93b1 : (t208 != t206) = false := bne_eq_false_iff_eq.mpr c93
                      clear c93
                      replace H := Option.bind_eq_some_iff.mp H
                      obtain ⟨⟨t209, t210⟩, A940, H⟩ := H
                      replace H : ((impl_MirrorFabric.f kj59 t209 t210).bind fun bt213 => ((laws_eqFabric.f kj59 bt213.1 bt213.2.1 t180 t181).bind fun t219 => (if t219 = true then (laws_FnExactMirrorFabric.j2 kj59 t206 (bt213.2.2 != t184) t191 t207) else (laws_FnExactMirrorFabric.j2 kj59 t206 true t191 t207)))) = some r := H
                      have A94 := Aside0.mk A940
                      clear A940
                      replace H := Option.bind_eq_some_iff.mp H
                      obtain ⟨⟨t213, t214, t217⟩, A950, H⟩ := H
                      replace H : ((laws_eqFabric.f kj59 t213 t214 t180 t181).bind fun t219 => (if t219 = true then (laws_FnExactMirrorFabric.j2 kj59 t206 (t217 != t184) t191 t207) else (laws_FnExactMirrorFabric.j2 kj59 t206 true t191 t207))) = some r := H
                      have A95 := Aside0.mk A950
                      clear A950
                      have HC96 := Aside0.mk H
                      clear H
                      have hnb97 := NB196_174.out
                      have hnc97 := NB174_196.out
                      have hnb98 := NB196_185.out
                      have hnc98 := NB185_196.out
                      have hnb99 := NB196_190.out
                      have hnc99 := NB190_196.out
                      have hcz100_0 : wc.cell? ⟨gb196, 0, none⟩ = some (.int .i16 t191) := (blk_cell BK196.out 0).trans rfl
                      have hcz100_1 : wc.cell? ⟨gb196, 1, none⟩ = some (.slice Ao36 t192.length co36) := (blk_cell BK196.out 1).trans rfl
                      have hfz100_0 := blk_frozen BK196.out 0
                      have hfz100_1 := blk_frozen BK196.out 1
                      go_upto_region 25 with (first | ((with_reducible refine gate_callee (f := 37) rfl ?_); refine goesL_ (some 64) rfl rfl Try.func37 (by kernel_rfl) rfl #[.agg #[.int .i16 t191, .slice Ao36 t192.length co36], .int .i64 1] rfl (by (try simp only [List.map_toArray, List.map_cons, List.map_nil]); first | done | rfl | (simp only [List.length_drop, List.length_take]; rfl)) ?_; (with_reducible refine (laws_markFabric.calls kj59 t191 (fun k_ => some k_ = (.slice Ao36 t192.length co36 : Value).ownBlock) (.slice Ao36 t192.length co36) t192 1 t206 t207 w _ ?side1 ?side2 A90.out).mono ?_); (case side1 => repeat (first | (with_reducible first | exact HB.out | apply below_alloc | apply pw_below_drewN | apply below_drew1 | refine below_set ?_ GE174.out | refine below_set ?_ GE185.out | refine below_set ?_ GE190.out | refine below_set ?_ GE196.out) | exact HB.out)); (case side2 => exact Kd.R_tight rfl HO_197001.out); rintro e w101 ⟨rfl, hy0, hb, hkp⟩; refine ⟨_, rfl, ?_⟩; have n0_ := Aside0.mk (Kd.R_mono (ok' := fun k_ => some k_ ≠ (.slice Ao29 t204.length co29 : Value).ownBlock ∧ some k_ ≠ (.slice Ao36 t192.length co36 : Value).ownBlock) (Kd.R_keptB (HO_186001.out) hkp (fun k_ hk_ hs_ => (hk_.2) hs_)) (fun k_ hk_ => ⟨hk_.1.1, hk_.1.2⟩)); have n1_ := Aside0.mk (Kd.R_mono (ok' := fun k_ => some k_ ≠ (.slice Ao22 t181.length co22 : Value).ownBlock ∧ some k_ ≠ (.slice Ao36 t192.length co36 : Value).ownBlock) (Kd.R_keptB (HO_191001.out) hkp (fun k_ hk_ hs_ => (hk_.2) hs_)) (fun k_ hk_ => ⟨hk_.1.1, hk_.1.2⟩)); have n2_ := Aside0.mk (Kd.R_reok rfl hy0 (fun k_ e_ => HO_197001.out.1 k_ e_)); have n3_ := Aside0.mk (blk_kept (by (with_reducible repeat (first | refine blk_drewN ?_ _ | refine blk_drew ?_ | refine blk_alloc ?_ _)); exact BK174.out) hkp (fun hs_ => (fun e_ => (Kd.R_ne HO_197001.out BK174.out (by decide)) e_) hs_)); have n4_ := Aside0.mk (blk_kept (by (with_reducible repeat (first | refine blk_drewN ?_ _ | refine blk_drew ?_ | refine blk_alloc ?_ _)); exact BK185.out) hkp (fun hs_ => (fun e_ => (Kd.R_ne HO_197001.out BK185.out (by decide)) e_) hs_)); have n5_ := Aside0.mk (blk_kept (by (with_reducible repeat (first | refine blk_drewN ?_ _ | refine blk_drew ?_ | refine blk_alloc ?_ _)); exact BK190.out) hkp (fun hs_ => (fun e_ => (Kd.R_ne HO_197001.out BK190.out (by decide)) e_) hs_)); have n6_ := Aside0.mk (blk_kept (by (with_reducible repeat (first | refine blk_drewN ?_ _ | refine blk_drew ?_ | refine blk_alloc ?_ _)); exact BK196.out) hkp (fun hs_ => (fun e_ => (Kd.R_ne HO_197001.out BK196.out (by decide)) e_) hs_)); have n7_ := Aside0.mk (hb); clear HO_186001; clear HO_191001; clear HO_197001; clear BK174; clear BK185; clear BK190; clear BK196; clear HB; have HO_186001 := n0_; have HO_191001 := n1_; have HO_197001 := n2_; have BK174 := n3_; have BK185 := n4_; have BK190 := n5_; have BK196 := n6_; have HB := n7_; clear n0_ n1_ n2_ n3_ n4_ n5_ n6_ n7_; (try clear hb); (try clear hkp); (try clear hy0); have hcz102_0 : w101.cell? ⟨gb196, 0, none⟩ = some (.int .i16 t191) := (blk_cell BK196.out 0).trans rfl; have hcz102_1 : w101.cell? ⟨gb196, 1, none⟩ = some (.slice Ao36 t192.length co36) := (blk_cell BK196.out 1).trans rfl; have hfz102_0 := blk_frozen BK196.out 0; have hfz102_1 := blk_frozen BK196.out 1) | ((with_reducible refine gate_callee (f := 38) rfl ?_); refine goesL_ (some 67) rfl rfl Try.func38 (by kernel_rfl) rfl #[.agg #[.int .i16 t191, .slice Ao36 t207.length co36], .int .i64 1] rfl (by (try simp only [List.map_toArray, List.map_cons, List.map_nil]); first | done | (rw [show t207.length = t192.length from (Kd.R_reads' HO_197001.out).1.symm] <;> rfl) | rfl | (simp only [List.length_drop, List.length_take]; rfl)) ?_; (with_reducible refine (laws_heldFabric.calls kj59 t191 _ _ t207 1 t208 _ ?side1 ?side2 A91.out).mono ?_); (case side1 => repeat (first | exact (Kd.R_reads' HO_197001.out).2.2 | (with_reducible refine Kd.C_alloc ?_ _) | (with_reducible refine Kd.C_drewN ?_ _) | (with_reducible refine Kd.C_drew ?_))); (case side2 => rw [show t207.length = t192.length from (Kd.R_reads' HO_197001.out).1.symm]; exact (Kd.R_reads' HO_197001.out).2.1); rintro e w103 ⟨rfl, hb⟩; refine ⟨_, rfl, ?_⟩; have n0_ := Aside0.mk (Kd.R_below (by (with_reducible repeat (first | apply Kd.R_alloc | apply Kd.R_drewN | apply Kd.R_drew)); exact HO_186001.out) hb); have n1_ := Aside0.mk (Kd.R_below (by (with_reducible repeat (first | apply Kd.R_alloc | apply Kd.R_drewN | apply Kd.R_drew)); exact HO_191001.out) hb); have n2_ := Aside0.mk (Kd.R_below (by (with_reducible repeat (first | apply Kd.R_alloc | apply Kd.R_drewN | apply Kd.R_drew)); exact HO_197001.out) hb); have n3_ := Aside0.mk (blk_below (g := gb174) (o := .cells #[.int .i16 a0_0, .slice A0_1 l0_1.length c0_1] 55 (0, 0)) (by (with_reducible repeat (first | refine blk_drewN ?_ _ | refine blk_drew ?_ | refine blk_alloc ?_ _)); exact BK174.out) hb); have n4_ := Aside0.mk (blk_below (g := gb185) (o := .cells #[.int .i16 t180, .slice Ao22 t181.length co22] 57 (0, 0)) (by (with_reducible repeat (first | refine blk_drewN ?_ _ | refine blk_drew ?_ | refine blk_alloc ?_ _)); exact BK185.out) hb); have n5_ := Aside0.mk (blk_below (g := gb190) (o := .cells #[.int .i16 t186, .slice Ao29 t204.length co29] 57 (0, 0)) (by (with_reducible repeat (first | refine blk_drewN ?_ _ | refine blk_drew ?_ | refine blk_alloc ?_ _)); exact BK190.out) hb); have n6_ := Aside0.mk (blk_below (g := gb196) (o := .cells #[.int .i16 t191, .slice Ao36 t192.length co36] 57 (0, 0)) (by (with_reducible repeat (first | refine blk_drewN ?_ _ | refine blk_drew ?_ | refine blk_alloc ?_ _)); exact BK196.out) hb); have n7_ := Aside0.mk (below_step (by repeat (first | (with_reducible first | exact HB.out | apply below_alloc | apply pw_below_drewN | apply below_drew1 | refine below_set ?_ GE174.out | refine below_set ?_ GE185.out | refine below_set ?_ GE190.out | refine below_set ?_ GE196.out) | exact HB.out)) hb); clear HO_186001; clear HO_191001; clear HO_197001; clear BK174; clear BK185; clear BK190; clear BK196; clear HB; have HO_186001 := n0_; have HO_191001 := n1_; have HO_197001 := n2_; have BK174 := n3_; have BK185 := n4_; have BK190 := n5_; have BK196 := n6_; have HB := n7_; clear n0_ n1_ n2_ n3_ n4_ n5_ n6_ n7_; (try clear hb); (try clear hb2); (try clear hk); (try clear hi); have hnb104 := NB174_185.out; have hnc104 := NB185_174.out; have hnb105 := NB174_190.out; have hnc105 := NB190_174.out; have hcz106_0 : w103.cell? ⟨gb174, 0, none⟩ = some (.int .i16 a0_0) := (blk_cell BK174.out 0).trans rfl; have hcz106_1 : w103.cell? ⟨gb174, 1, none⟩ = some (.slice A0_1 l0_1.length c0_1) := (blk_cell BK174.out 1).trans rfl; have hfz106_0 := blk_frozen BK174.out 0; have hfz106_1 := blk_frozen BK174.out 1) | ((with_reducible refine gate_callee (f := 34) rfl ?_); refine goesL_ (some 75) rfl rfl Try.func34 (by kernel_rfl) rfl #[.agg #[.int .i16 a0_0, .slice A0_1 l0_1.length c0_1]] rfl (by (try simp only [List.map_toArray, List.map_cons, List.map_nil]); first | done | rfl | (simp only [List.length_drop, List.length_take]; rfl)) ?_; (with_reducible refine (laws_toFabric.calls kj59 a0_0 _ _ l0_1 t209 t210 _ ?side1 ?side2 A94.out).mono ?_); (case side1 => repeat (first | exact (Kd.C_below HR0_1.out HB.out) | (with_reducible refine Kd.C_alloc ?_ _) | (with_reducible refine Kd.C_drewN ?_ _) | (with_reducible refine Kd.C_drew ?_))); (case side2 => exact HC0_1.out); rintro e w107 ⟨v211, rfl, ho0, hb⟩; refine ⟨_, rfl, ?_⟩; have n0_ := Aside0.mk (Kd.R_elder' (by (with_reducible repeat (first | apply Kd.R_alloc | apply Kd.R_drewN | apply Kd.R_drew)); exact HO_186001.out) (Kd.R_base ho0) hb); have n1_ := Aside0.mk (Kd.R_elder' (by (with_reducible repeat (first | apply Kd.R_alloc | apply Kd.R_drewN | apply Kd.R_drew)); exact HO_191001.out) (Kd.R_base ho0) hb); have n2_ := Aside0.mk (Kd.R_elder' (by (with_reducible repeat (first | apply Kd.R_alloc | apply Kd.R_drewN | apply Kd.R_drew)); exact HO_197001.out) (Kd.R_base ho0) hb); have n3_ := Aside0.mk (Kd.R_lower (Kd.R_new' (Kd.R_new' (Kd.R_new' ho0 (Kd.R_lt (by (with_reducible repeat (first | apply Kd.R_alloc | apply Kd.R_drewN | apply Kd.R_drew)); exact HO_186001.out))) (Kd.R_lt (by (with_reducible repeat (first | apply Kd.R_alloc | apply Kd.R_drewN | apply Kd.R_drew)); exact HO_191001.out))) (Kd.R_lt (by (with_reducible repeat (first | apply Kd.R_alloc | apply Kd.R_drewN | apply Kd.R_drew)); exact HO_197001.out))) (below_size (by repeat (first | (with_reducible first | exact HB.out | apply below_alloc | apply pw_below_drewN | apply below_drew1 | refine below_set ?_ GE174.out | refine below_set ?_ GE185.out | refine below_set ?_ GE190.out | refine below_set ?_ GE196.out) | exact HB.out)))); have n4_ := Aside0.mk (blk_below (g := gb174) (o := .cells #[.int .i16 a0_0, .slice A0_1 l0_1.length c0_1] 55 (0, 0)) (by (with_reducible repeat (first | refine blk_drewN ?_ _ | refine blk_drew ?_ | refine blk_alloc ?_ _)); exact BK174.out) hb); have n5_ := Aside0.mk (blk_below (g := gb185) (o := .cells #[.int .i16 t180, .slice Ao22 t181.length co22] 57 (0, 0)) (by (with_reducible repeat (first | refine blk_drewN ?_ _ | refine blk_drew ?_ | refine blk_alloc ?_ _)); exact BK185.out) hb); have n6_ := Aside0.mk (blk_below (g := gb190) (o := .cells #[.int .i16 t186, .slice Ao29 t204.length co29] 57 (0, 0)) (by (with_reducible repeat (first | refine blk_drewN ?_ _ | refine blk_drew ?_ | refine blk_alloc ?_ _)); exact BK190.out) hb); have n7_ := Aside0.mk (blk_below (g := gb196) (o := .cells #[.int .i16 t191, .slice Ao36 t192.length co36] 57 (0, 0)) (by (with_reducible repeat (first | refine blk_drewN ?_ _ | refine blk_drew ?_ | refine blk_alloc ?_ _)); exact BK196.out) hb); have n8_ := Aside0.mk (below_step (by repeat (first | (with_reducible first | exact HB.out | apply below_alloc | apply pw_below_drewN | apply below_drew1 | refine below_set ?_ GE174.out | refine below_set ?_ GE185.out | refine below_set ?_ GE190.out | refine below_set ?_ GE196.out) | exact HB.out)) hb); clear HO_186001; clear HO_191001; clear HO_197001; clear BK174; clear BK185; clear BK190; clear BK196; clear HB; have HO_186001 := n0_; have HO_191001 := n1_; have HO_197001 := n2_; have HO212 := n3_; have BK174 := n4_; have BK185 := n5_; have BK190 := n6_; have BK196 := n7_; have HB := n8_; clear n0_ n1_ n2_ n3_ n4_ n5_ n6_ n7_ n8_; (try clear hb); (try clear hb2); (try clear hk); (try clear hi); (try clear ho0); obtain ⟨Ao108, co108, eo108⟩ := Kd.R_slice HO212.out; subst eo108) | ((with_reducible refine gate_callee (f := 35) rfl ?_); refine goesL_ (some 76) rfl rfl Try.func35 (by kernel_rfl) rfl #[.agg #[.int .i16 t209, .slice Ao108 t210.length co108]] rfl (by (try simp only [List.map_toArray, List.map_cons, List.map_nil]); first | done | rfl | (simp only [List.length_drop, List.length_take]; rfl)) ?_; (with_reducible refine (impl_MirrorFabric.calls kj59 t209 _ _ t210 t213 t214 t217 _ ?side1 ?side2 A95.out).mono ?_); (case side1 => repeat (first | exact (Kd.R_reads' HO212.out).2.2 | (with_reducible refine Kd.C_alloc ?_ _) | (with_reducible refine Kd.C_drewN ?_ _) | (with_reducible refine Kd.C_drew ?_))); (case side2 => exact (Kd.R_reads' HO212.out).2.1); rintro e w109 ⟨v215, rfl, ho0, hb⟩; refine ⟨_, rfl, ?_⟩; have n0_ := Aside0.mk (Kd.R_elder' (by (with_reducible repeat (first | apply Kd.R_alloc | apply Kd.R_drewN | apply Kd.R_drew)); exact HO_186001.out) (Kd.R_base ho0) hb); have n1_ := Aside0.mk (Kd.R_elder' (by (with_reducible repeat (first | apply Kd.R_alloc | apply Kd.R_drewN | apply Kd.R_drew)); exact HO_191001.out) (Kd.R_base ho0) hb); have n2_ := Aside0.mk (Kd.R_elder' (by (with_reducible repeat (first | apply Kd.R_alloc | apply Kd.R_drewN | apply Kd.R_drew)); exact HO_197001.out) (Kd.R_base ho0) hb); have n3_ := Aside0.mk (Kd.R_elder' (by (with_reducible repeat (first | apply Kd.R_alloc | apply Kd.R_drewN | apply Kd.R_drew)); exact HO212.out) (Kd.R_base ho0) hb); have n4_ := Aside0.mk (Kd.R_lower (Kd.R_new' (Kd.R_new' (Kd.R_new' (Kd.R_new' ho0 (Kd.R_lt (by (with_reducible repeat (first | apply Kd.R_alloc | apply Kd.R_drewN | apply Kd.R_drew)); exact HO_186001.out))) (Kd.R_lt (by (with_reducible repeat (first | apply Kd.R_alloc | apply Kd.R_drewN | apply Kd.R_drew)); exact HO_191001.out))) (Kd.R_lt (by (with_reducible repeat (first | apply Kd.R_alloc | apply Kd.R_drewN | apply Kd.R_drew)); exact HO_197001.out))) (Kd.R_lt (by (with_reducible repeat (first | apply Kd.R_alloc | apply Kd.R_drewN | apply Kd.R_drew)); exact HO212.out))) (below_size (by repeat (first | (with_reducible first | exact HB.out | apply below_alloc | apply pw_below_drewN | apply below_drew1 | refine below_set ?_ GE174.out | refine below_set ?_ GE185.out | refine below_set ?_ GE190.out | refine below_set ?_ GE196.out) | exact HB.out)))); have n5_ := Aside0.mk (blk_below (g := gb174) (o := .cells #[.int .i16 a0_0, .slice A0_1 l0_1.length c0_1] 55 (0, 0)) (by (with_reducible repeat (first | refine blk_drewN ?_ _ | refine blk_drew ?_ | refine blk_alloc ?_ _)); exact BK174.out) hb); have n6_ := Aside0.mk (blk_below (g := gb185) (o := .cells #[.int .i16 t180, .slice Ao22 t181.length co22] 57 (0, 0)) (by (with_reducible repeat (first | refine blk_drewN ?_ _ | refine blk_drew ?_ | refine blk_alloc ?_ _)); exact BK185.out) hb); have n7_ := Aside0.mk (blk_below (g := gb190) (o := .cells #[.int .i16 t186, .slice Ao29 t204.length co29] 57 (0, 0)) (by (with_reducible repeat (first | refine blk_drewN ?_ _ | refine blk_drew ?_ | refine blk_alloc ?_ _)); exact BK190.out) hb); have n8_ := Aside0.mk (blk_below (g := gb196) (o := .cells #[.int .i16 t191, .slice Ao36 t192.length co36] 57 (0, 0)) (by (with_reducible repeat (first | refine blk_drewN ?_ _ | refine blk_drew ?_ | refine blk_alloc ?_ _)); exact BK196.out) hb); have n9_ := Aside0.mk (below_step (by repeat (first | (with_reducible first | exact HB.out | apply below_alloc | apply pw_below_drewN | apply below_drew1 | refine below_set ?_ GE174.out | refine below_set ?_ GE185.out | refine below_set ?_ GE190.out | refine below_set ?_ GE196.out) | exact HB.out)) hb); clear HO_186001; clear HO_191001; clear HO_197001; clear HO212; clear BK174; clear BK185; clear BK190; clear BK196; clear HB; have HO_186001 := n0_; have HO_191001 := n1_; have HO_197001 := n2_; have HO212 := n3_; have HO216 := n4_; have BK174 := n5_; have BK185 := n6_; have BK190 := n7_; have BK196 := n8_; have HB := n9_; clear n0_ n1_ n2_ n3_ n4_ n5_ n6_ n7_ n8_ n9_; (try clear hb); (try clear hb2); (try clear hk); (try clear hi); (try clear ho0)) | ((with_reducible refine gate_dst (N := 12) rfl ?_); refine box_event ?hg (N := 12) ?hd (cs := #[.int .i16 0, .slice none 0 0]) (t := 57) ?hr ?_; (case hd => rfl); (case hg => rfl); (case hr => first | (go_simp; done) | (go_simp; rfl)); intro gb218 hg w110 hbox hb; have n0_ := Aside0.mk (Kd.R_below (by (with_reducible repeat (first | apply Kd.R_alloc | apply Kd.R_drewN | apply Kd.R_drew)); exact HO_186001.out) hb); have n1_ := Aside0.mk (Kd.R_below (by (with_reducible repeat (first | apply Kd.R_alloc | apply Kd.R_drewN | apply Kd.R_drew)); exact HO_191001.out) hb); have n2_ := Aside0.mk (Kd.R_below (by (with_reducible repeat (first | apply Kd.R_alloc | apply Kd.R_drewN | apply Kd.R_drew)); exact HO_197001.out) hb); have n3_ := Aside0.mk (Kd.R_below (by (with_reducible repeat (first | apply Kd.R_alloc | apply Kd.R_drewN | apply Kd.R_drew)); exact HO212.out) hb); have n4_ := Aside0.mk (Kd.R_below (by (with_reducible repeat (first | apply Kd.R_alloc | apply Kd.R_drewN | apply Kd.R_drew)); exact HO216.out) hb); have n5_ := Aside0.mk (blk_below (g := gb174) (o := .cells #[.int .i16 a0_0, .slice A0_1 l0_1.length c0_1] 55 (0, 0)) (by (with_reducible repeat (first | refine blk_drewN ?_ _ | refine blk_drew ?_ | refine blk_alloc ?_ _)); exact BK174.out) hb); have n6_ := Aside0.mk (blk_below (g := gb185) (o := .cells #[.int .i16 t180, .slice Ao22 t181.length co22] 57 (0, 0)) (by (with_reducible repeat (first | refine blk_drewN ?_ _ | refine blk_drew ?_ | refine blk_alloc ?_ _)); exact BK185.out) hb); have n7_ := Aside0.mk (blk_below (g := gb190) (o := .cells #[.int .i16 t186, .slice Ao29 t204.length co29] 57 (0, 0)) (by (with_reducible repeat (first | refine blk_drewN ?_ _ | refine blk_drew ?_ | refine blk_alloc ?_ _)); exact BK190.out) hb); have n8_ := Aside0.mk (blk_below (g := gb196) (o := .cells #[.int .i16 t191, .slice Ao36 t192.length co36] 57 (0, 0)) (by (with_reducible repeat (first | refine blk_drewN ?_ _ | refine blk_drew ?_ | refine blk_alloc ?_ _)); exact BK196.out) hb); have n9_ := Aside0.mk (below_step (by repeat (first | (with_reducible first | exact HB.out | apply below_alloc | apply pw_below_drewN | apply below_drew1 | refine below_set ?_ GE174.out | refine below_set ?_ GE185.out | refine below_set ?_ GE190.out | refine below_set ?_ GE196.out) | exact HB.out)) hb); have n10_ := Aside0.mk (hbox); have n11_ := Aside0.mk ((by rw [hg]; exact (below_size (by repeat (first | (with_reducible first | exact HB.out | apply below_alloc | apply pw_below_drewN | apply below_drew1 | refine below_set ?_ GE174.out | refine below_set ?_ GE185.out | refine below_set ?_ GE190.out | refine below_set ?_ GE196.out) | exact HB.out))) : w.heap.size ≤ gb218)); have n12_ := Aside0.mk ((by rw [hg]; exact (below_size (by repeat (first | (with_reducible first | exact HB.out | apply below_alloc | apply pw_below_drewN | apply below_drew1 | refine below_set ?_ GE174.out | refine below_set ?_ GE185.out | refine below_set ?_ GE190.out | refine below_set ?_ GE196.out) | exact HB.out))) : w.heap.size ≤ gb218)); have n13_ := Aside0.mk ((by rw [hg]; exact Nat.ne_of_lt (blk_lt (g := gb174) (o := .cells #[.int .i16 a0_0, .slice A0_1 l0_1.length c0_1] 55 (0, 0)) (by (with_reducible repeat (first | refine blk_drewN ?_ _ | refine blk_drew ?_ | refine blk_alloc ?_ _)); exact BK174.out)) : gb174 ≠ gb218)); have n14_ := Aside0.mk ((by rw [hg]; exact Nat.ne_of_gt (blk_lt (g := gb174) (o := .cells #[.int .i16 a0_0, .slice A0_1 l0_1.length c0_1] 55 (0, 0)) (by (with_reducible repeat (first | refine blk_drewN ?_ _ | refine blk_drew ?_ | refine blk_alloc ?_ _)); exact BK174.out)) : gb218 ≠ gb174)); have n15_ := Aside0.mk ((by rw [hg]; exact Nat.ne_of_lt (blk_lt (g := gb185) (o := .cells #[.int .i16 t180, .slice Ao22 t181.length co22] 57 (0, 0)) (by (with_reducible repeat (first | refine blk_drewN ?_ _ | refine blk_drew ?_ | refine blk_alloc ?_ _)); exact BK185.out)) : gb185 ≠ gb218)); have n16_ := Aside0.mk ((by rw [hg]; exact Nat.ne_of_gt (blk_lt (g := gb185) (o := .cells #[.int .i16 t180, .slice Ao22 t181.length co22] 57 (0, 0)) (by (with_reducible repeat (first | refine blk_drewN ?_ _ | refine blk_drew ?_ | refine blk_alloc ?_ _)); exact BK185.out)) : gb218 ≠ gb185)); have n17_ := Aside0.mk ((by rw [hg]; exact Nat.ne_of_lt (blk_lt (g := gb190) (o := .cells #[.int .i16 t186, .slice Ao29 t204.length co29] 57 (0, 0)) (by (with_reducible repeat (first | refine blk_drewN ?_ _ | refine blk_drew ?_ | refine blk_alloc ?_ _)); exact BK190.out)) : gb190 ≠ gb218)); have n18_ := Aside0.mk ((by rw [hg]; exact Nat.ne_of_gt (blk_lt (g := gb190) (o := .cells #[.int .i16 t186, .slice Ao29 t204.length co29] 57 (0, 0)) (by (with_reducible repeat (first | refine blk_drewN ?_ _ | refine blk_drew ?_ | refine blk_alloc ?_ _)); exact BK190.out)) : gb218 ≠ gb190)); have n19_ := Aside0.mk ((by rw [hg]; exact Nat.ne_of_lt (blk_lt (g := gb196) (o := .cells #[.int .i16 t191, .slice Ao36 t192.length co36] 57 (0, 0)) (by (with_reducible repeat (first | refine blk_drewN ?_ _ | refine blk_drew ?_ | refine blk_alloc ?_ _)); exact BK196.out)) : gb196 ≠ gb218)); have n20_ := Aside0.mk ((by rw [hg]; exact Nat.ne_of_gt (blk_lt (g := gb196) (o := .cells #[.int .i16 t191, .slice Ao36 t192.length co36] 57 (0, 0)) (by (with_reducible repeat (first | refine blk_drewN ?_ _ | refine blk_drew ?_ | refine blk_alloc ?_ _)); exact BK196.out)) : gb218 ≠ gb196)); clear HO_186001; clear HO_191001; clear HO_197001; clear HO212; clear HO216; clear BK174; clear BK185; clear BK190; clear BK196; clear HB; have HO_186001 := n0_; have HO_191001 := n1_; have HO_197001 := n2_; have HO212 := n3_; have HO216 := n4_; have BK174 := n5_; have BK185 := n6_; have BK190 := n7_; have BK196 := n8_; have HB := n9_; have BK218 := n10_; have GW218 := n11_; have GE218 := n12_; have NB174_218 := n13_; have NB218_174 := n14_; have NB185_218 := n15_; have NB218_185 := n16_; have NB190_218 := n17_; have NB218_190 := n18_; have NB196_218 := n19_; have NB218_196 := n20_; clear n0_ n1_ n2_ n3_ n4_ n5_ n6_ n7_ n8_ n9_ n10_ n11_ n12_ n13_ n14_ n15_ n16_ n17_ n18_ n19_ n20_; clear hb hbox hg; have hnb111 := NB218_174.out; have hnc111 := NB174_218.out; have hnb112 := NB218_185.out; have hnc112 := NB185_218.out; have hnb113 := NB218_190.out; have hnc113 := NB190_218.out; have hnb114 := NB218_196.out; have hnc114 := NB196_218.out; have hcz115_0 : w110.cell? ⟨gb218, 0, none⟩ = some (.int .i16 0) := (blk_cell BK218.out 0).trans rfl; have hcz115_1 : w110.cell? ⟨gb218, 1, none⟩ = some (.slice none 0 0) := (blk_cell BK218.out 1).trans rfl; have hfz115_0 := blk_frozen BK218.out 0; have hfz115_1 := blk_frozen BK218.out 1; obtain ⟨Ao116, co116, eo116⟩ := Kd.R_slice HO216.out; subst eo116))
                      (try simp only [Act.put, List.setIfInBounds_toArray, List.set_cons_zero, List.set_cons_succ])
                      go_cut [87] (fun v87 wc => ∃ (kq : Nat) (x87_95 : Bool), v87 = .bool x87_95 ∧ Aside0 (laws_FnExactMirrorFabric.j2 kq t206 x87_95 t191 t207 = some r) ∧ Aside0 (kq ≤ kj59) ∧ Aside0 (Kd.R Kd.string 9 wc w.heap.size (fun k_ => some k_ ≠ ((.slice Ao29 t204.length co29) : Value).ownBlock ∧ some k_ ≠ ((.slice Ao36 t192.length co36) : Value).ownBlock ∧ some k_ ≠ ((.slice Ao116 t214.length co116) : Value).ownBlock) (.slice Ao22 t181.length co22) t181) ∧ Aside0 (Kd.R Kd.string 9 wc w.heap.size (fun k_ => some k_ ≠ ((.slice Ao22 t181.length co22) : Value).ownBlock ∧ some k_ ≠ ((.slice Ao36 t192.length co36) : Value).ownBlock ∧ some k_ ≠ ((.slice Ao116 t214.length co116) : Value).ownBlock) (.slice Ao29 t204.length co29) t204) ∧ Aside0 (Kd.R Kd.string 9 wc w.heap.size (fun k_ => some k_ ≠ ((.slice Ao22 t181.length co22) : Value).ownBlock ∧ some k_ ≠ ((.slice Ao29 t204.length co29) : Value).ownBlock ∧ some k_ ≠ ((.slice Ao116 t214.length co116) : Value).ownBlock) (.slice Ao36 t192.length co36) t207) ∧ Aside0 (Kd.R Kd.string 9 wc w.heap.size (fun k_ => some k_ ≠ ((.slice Ao22 t181.length co22) : Value).ownBlock ∧ some k_ ≠ ((.slice Ao29 t204.length co29) : Value).ownBlock ∧ some k_ ≠ ((.slice Ao36 t192.length co36) : Value).ownBlock) (.slice Ao116 t214.length co116) t214) ∧ Aside0 (wc.heap[gb174]? = some (.cells #[.int .i16 a0_0, (.slice A0_1 l0_1.length c0_1)] 55 (0, 0))) ∧ Aside0 (wc.heap[gb185]? = some (.cells #[.int .i16 t180, (.slice Ao22 t181.length co22)] 57 (0, 0))) ∧ Aside0 (wc.heap[gb190]? = some (.cells #[.int .i16 t186, (.slice Ao29 t204.length co29)] 57 (0, 0))) ∧ Aside0 (wc.heap[gb196]? = some (.cells #[.int .i16 t191, (.slice Ao36 t192.length co36)] 57 (0, 0))) ∧ Aside0 (wc.heap[gb218]? = some (.cells #[.int .i16 t213, (.slice Ao116 t214.length co116)] 57 (0, 0))) ∧ Aside0 (Below w.heap.size w wc))
                      case first =>
                        as_aux_lemma =>
                        have H := HC96.out
                        clear HC96
                        replace H := Option.bind_eq_some_iff.mp H
                        obtain ⟨t219, A1170, H⟩ := H
                        replace H : (if t219 = true then (laws_FnExactMirrorFabric.j2 kj59 t206 (t217 != t184) t191 t207) else (laws_FnExactMirrorFabric.j2 kj59 t206 true t191 t207)) = some r := H
                        have A117 := Aside0.mk A1170
                        clear A1170
                        by_cases c118 : t219 = true
                        · subst c118
                          have H1 : (laws_FnExactMirrorFabric.j2 kj59 t206 (t217 != t184) t191 t207) = some r := by rw [if_pos rfl] at H; exact H
                          clear H
                          have H := H1
                          clear H1
                          have H' := Aside0.mk H
                          clear H
                          have hnb119 := NB218_174.out
                          have hnc119 := NB174_218.out
                          have hnb120 := NB218_185.out
                          have hnc120 := NB185_218.out
                          have hnb121 := NB218_190.out
                          have hnc121 := NB190_218.out
                          have hnb122 := NB218_196.out
                          have hnc122 := NB196_218.out
                          have hcz123_0 : w110.cell? ⟨gb218, 0, none⟩ = some (.int .i16 0) := (blk_cell BK218.out 0).trans rfl
                          have hcz123_1 : w110.cell? ⟨gb218, 1, none⟩ = some (.slice none 0 0) := (blk_cell BK218.out 1).trans rfl
                          have hfz123_0 := blk_frozen BK218.out 0
                          have hfz123_1 := blk_frozen BK218.out 1
                          have hnb124 := NB185_174.out
                          have hnc124 := NB174_185.out
                          have hnb125 := NB185_190.out
                          have hnc125 := NB190_185.out
                          have hnb126 := NB185_196.out
                          have hnc126 := NB196_185.out
                          have hcz127_0 : w110.cell? ⟨gb185, 0, none⟩ = some (.int .i16 t180) := (blk_cell BK185.out 0).trans rfl
                          have hcz127_1 : w110.cell? ⟨gb185, 1, none⟩ = some (.slice Ao22 t181.length co22) := (blk_cell BK185.out 1).trans rfl
                          have hfz127_0 := blk_frozen BK185.out 0
                          have hfz127_1 := blk_frozen BK185.out 1
                          go_wp2_with (first | ((with_reducible refine gate_callee (f := 36) rfl ?_); refine goesL_ (some 81) rfl rfl Try.func36 (by kernel_rfl) rfl #[.agg #[.int .i16 t213, .slice Ao116 t214.length co116], .agg #[.int .i16 t180, .slice Ao22 t181.length co22]] rfl (by (try simp only [List.map_toArray, List.map_cons, List.map_nil]); first | done | rfl | (simp only [List.length_drop, List.length_take]; rfl)) ?_; (with_reducible refine (laws_eqFabric.calls kj59 t213 _ _ t214 t180 _ _ t181 true _ ?side1 ?side2 ?side3 ?side4 A117.out).mono ?_); (case side1 => refine (Kd.R_reads' (e := 9) (base := w.heap.size) (ok := fun k_ => ((((True ∧ some k_ ≠ (.slice Ao22 t181.length co22 : Value).ownBlock) ∧ some k_ ≠ (.slice Ao29 t204.length co29 : Value).ownBlock) ∧ some k_ ≠ (.slice Ao36 t192.length co36 : Value).ownBlock) ∧ some k_ ≠ (.slice Ao108 t210.length co108 : Value).ownBlock)) (n := t214.length) (c := co116) ?_).2.2; exact (by (with_reducible repeat (first | apply Kd.R_alloc | apply Kd.R_drewN | apply Kd.R_drew)); exact (Kd.R_mono (Kd.R_far (p := ⟨gb218, 1, none⟩) (Kd.R_far (p := ⟨gb218, 0, none⟩) (Kd.R_types HO216.out BK218.out (by decide)) (fun _ hk => hk.2) (.int .i16 t213)) (fun _ hk => hk.2) (.slice Ao116 t214.length co116)) (fun _ h_ => h_.1)))); (case side2 => exact (Kd.R_reads' HO216.out).2.1); (case side3 => refine (Kd.R_reads' (e := 9) (base := w.heap.size) (ok := fun k_ => (((some k_ ≠ (.slice Ao29 t204.length co29 : Value).ownBlock ∧ some k_ ≠ (.slice Ao36 t192.length co36 : Value).ownBlock) ∧ some k_ ≠ (.slice Ao108 t210.length co108 : Value).ownBlock) ∧ some k_ ≠ (.slice Ao116 t214.length co116 : Value).ownBlock)) (n := t181.length) (c := co22) ?_).2.2; exact (by (with_reducible repeat (first | apply Kd.R_alloc | apply Kd.R_drewN | apply Kd.R_drew)); exact (Kd.R_mono (Kd.R_far (p := ⟨gb218, 1, none⟩) (Kd.R_far (p := ⟨gb218, 0, none⟩) (Kd.R_types HO_186001.out BK218.out (by decide)) (fun _ hk => hk.2) (.int .i16 t213)) (fun _ hk => hk.2) (.slice Ao116 t214.length co116)) (fun _ h_ => h_.1)))); (case side4 => exact (Kd.R_reads' HO_186001.out).2.1); rintro e w128 ⟨rfl, hb⟩; refine ⟨_, rfl, ?_⟩; have n0_ := Aside0.mk (Kd.R_below (by (with_reducible repeat (first | apply Kd.R_alloc | apply Kd.R_drewN | apply Kd.R_drew)); exact (Kd.R_mono (Kd.R_far (p := ⟨gb218, 1, none⟩) (Kd.R_far (p := ⟨gb218, 0, none⟩) (Kd.R_types HO_186001.out BK218.out (by decide)) (fun _ hk => hk.2) (.int .i16 t213)) (fun _ hk => hk.2) (.slice Ao116 t214.length co116)) (fun _ h_ => h_.1))) hb); have n1_ := Aside0.mk (Kd.R_below (by (with_reducible repeat (first | apply Kd.R_alloc | apply Kd.R_drewN | apply Kd.R_drew)); exact (Kd.R_mono (Kd.R_far (p := ⟨gb218, 1, none⟩) (Kd.R_far (p := ⟨gb218, 0, none⟩) (Kd.R_types HO_191001.out BK218.out (by decide)) (fun _ hk => hk.2) (.int .i16 t213)) (fun _ hk => hk.2) (.slice Ao116 t214.length co116)) (fun _ h_ => h_.1))) hb); have n2_ := Aside0.mk (Kd.R_below (by (with_reducible repeat (first | apply Kd.R_alloc | apply Kd.R_drewN | apply Kd.R_drew)); exact (Kd.R_mono (Kd.R_far (p := ⟨gb218, 1, none⟩) (Kd.R_far (p := ⟨gb218, 0, none⟩) (Kd.R_types HO_197001.out BK218.out (by decide)) (fun _ hk => hk.2) (.int .i16 t213)) (fun _ hk => hk.2) (.slice Ao116 t214.length co116)) (fun _ h_ => h_.1))) hb); have n3_ := Aside0.mk (Kd.R_below (by (with_reducible repeat (first | apply Kd.R_alloc | apply Kd.R_drewN | apply Kd.R_drew)); exact (Kd.R_mono (Kd.R_far (p := ⟨gb218, 1, none⟩) (Kd.R_far (p := ⟨gb218, 0, none⟩) (Kd.R_types HO212.out BK218.out (by decide)) (fun _ hk => hk.2) (.int .i16 t213)) (fun _ hk => hk.2) (.slice Ao116 t214.length co116)) (fun _ h_ => h_.1))) hb); have n4_ := Aside0.mk (Kd.R_below (by (with_reducible repeat (first | apply Kd.R_alloc | apply Kd.R_drewN | apply Kd.R_drew)); exact (Kd.R_mono (Kd.R_far (p := ⟨gb218, 1, none⟩) (Kd.R_far (p := ⟨gb218, 0, none⟩) (Kd.R_types HO216.out BK218.out (by decide)) (fun _ hk => hk.2) (.int .i16 t213)) (fun _ hk => hk.2) (.slice Ao116 t214.length co116)) (fun _ h_ => h_.1))) hb); have n5_ := Aside0.mk (blk_below (g := gb174) (o := .cells #[.int .i16 a0_0, .slice A0_1 l0_1.length c0_1] 55 (0, 0)) (by (with_reducible repeat (first | refine blk_drewN ?_ _ | refine blk_drew ?_ | refine blk_alloc ?_ _)); refine blk_far ?_ NB174_218.out _; (with_reducible repeat (first | refine blk_drewN ?_ _ | refine blk_drew ?_ | refine blk_alloc ?_ _)); refine blk_far ?_ NB174_218.out _; (with_reducible repeat (first | refine blk_drewN ?_ _ | refine blk_drew ?_ | refine blk_alloc ?_ _)); exact BK174.out) hb); have n6_ := Aside0.mk (blk_below (g := gb185) (o := .cells #[.int .i16 t180, .slice Ao22 t181.length co22] 57 (0, 0)) (by (with_reducible repeat (first | refine blk_drewN ?_ _ | refine blk_drew ?_ | refine blk_alloc ?_ _)); refine blk_far ?_ NB185_218.out _; (with_reducible repeat (first | refine blk_drewN ?_ _ | refine blk_drew ?_ | refine blk_alloc ?_ _)); refine blk_far ?_ NB185_218.out _; (with_reducible repeat (first | refine blk_drewN ?_ _ | refine blk_drew ?_ | refine blk_alloc ?_ _)); exact BK185.out) hb); have n7_ := Aside0.mk (blk_below (g := gb190) (o := .cells #[.int .i16 t186, .slice Ao29 t204.length co29] 57 (0, 0)) (by (with_reducible repeat (first | refine blk_drewN ?_ _ | refine blk_drew ?_ | refine blk_alloc ?_ _)); refine blk_far ?_ NB190_218.out _; (with_reducible repeat (first | refine blk_drewN ?_ _ | refine blk_drew ?_ | refine blk_alloc ?_ _)); refine blk_far ?_ NB190_218.out _; (with_reducible repeat (first | refine blk_drewN ?_ _ | refine blk_drew ?_ | refine blk_alloc ?_ _)); exact BK190.out) hb); have n8_ := Aside0.mk (blk_below (g := gb196) (o := .cells #[.int .i16 t191, .slice Ao36 t192.length co36] 57 (0, 0)) (by (with_reducible repeat (first | refine blk_drewN ?_ _ | refine blk_drew ?_ | refine blk_alloc ?_ _)); refine blk_far ?_ NB196_218.out _; (with_reducible repeat (first | refine blk_drewN ?_ _ | refine blk_drew ?_ | refine blk_alloc ?_ _)); refine blk_far ?_ NB196_218.out _; (with_reducible repeat (first | refine blk_drewN ?_ _ | refine blk_drew ?_ | refine blk_alloc ?_ _)); exact BK196.out) hb); have n9_ := Aside0.mk (blk_below (g := gb218) (o := .cells #[.int .i16 t213, .slice Ao116 t214.length co116] 57 (0, 0)) (by (with_reducible repeat (first | refine blk_drewN ?_ _ | refine blk_drew ?_ | refine blk_alloc ?_ _)); refine blk_put (cs := #[.int .i16 t213, .slice none 0 0]) ?_ 1 _ rfl; (with_reducible repeat (first | refine blk_drewN ?_ _ | refine blk_drew ?_ | refine blk_alloc ?_ _)); refine blk_put (cs := #[.int .i16 0, .slice none 0 0]) ?_ 0 _ rfl; (with_reducible repeat (first | refine blk_drewN ?_ _ | refine blk_drew ?_ | refine blk_alloc ?_ _)); exact BK218.out) hb); have n10_ := Aside0.mk (below_step (by repeat (first | (with_reducible first | exact HB.out | apply below_alloc | apply pw_below_drewN | apply below_drew1 | refine below_set ?_ GE174.out | refine below_set ?_ GE185.out | refine below_set ?_ GE190.out | refine below_set ?_ GE196.out | refine below_set ?_ GE218.out) | exact HB.out)) hb); clear HO_186001; clear HO_191001; clear HO_197001; clear HO212; clear HO216; clear BK174; clear BK185; clear BK190; clear BK196; clear BK218; clear HB; have HO_186001 := n0_; have HO_191001 := n1_; have HO_197001 := n2_; have HO212 := n3_; have HO216 := n4_; have BK174 := n5_; have BK185 := n6_; have BK190 := n7_; have BK196 := n8_; have BK218 := n9_; have HB := n10_; clear n0_ n1_ n2_ n3_ n4_ n5_ n6_ n7_ n8_ n9_ n10_; (try clear hb); (try clear hb2); (try clear hk); (try clear hi)))
                          go_meet
                          case rel => exact ⟨_, ((t217 != t184)), (by first | rfl | (simp; done) | (simp [*]; done)), H', ⟨by have := HJ10.out; have := HJ59.out; first | omega | exact Nat.le_refl _⟩, ⟨by (try simp only [hl191001_59]); (with_reducible repeat (first | apply Kd.R_alloc | apply Kd.R_drewN | apply Kd.R_drew)); exact Kd.R_mono HO_186001.out (fun _ hk => ⟨hk.1.1.1, ⟨hk.1.1.2, hk.2⟩⟩)⟩, ⟨by (try simp only [hl191001_59]); (with_reducible repeat (first | apply Kd.R_alloc | apply Kd.R_drewN | apply Kd.R_drew)); exact Kd.R_mono HO_191001.out (fun _ hk => ⟨hk.1.1.1, ⟨hk.1.1.2, hk.2⟩⟩)⟩, ⟨by (try simp only [hl191001_59]); (with_reducible repeat (first | apply Kd.R_alloc | apply Kd.R_drewN | apply Kd.R_drew)); exact Kd.R_mono HO_197001.out (fun _ hk => ⟨hk.1.1.1, ⟨hk.1.1.2, hk.2⟩⟩)⟩, ⟨by (try simp only [hl191001_59]); (with_reducible repeat (first | apply Kd.R_alloc | apply Kd.R_drewN | apply Kd.R_drew)); exact Kd.R_mono HO216.out (fun _ hk => ⟨hk.1.1.1.2, ⟨hk.1.1.2, hk.1.2⟩⟩)⟩, ⟨by (try simp only [hl191001_59]); (with_reducible repeat (first | refine blk_drewN ?_ _ | refine blk_drew ?_ | refine blk_alloc ?_ _)); exact BK174.out⟩, ⟨by (try simp only [hl191001_59]); (with_reducible repeat (first | refine blk_drewN ?_ _ | refine blk_drew ?_ | refine blk_alloc ?_ _)); exact BK185.out⟩, ⟨by (try simp only [hl191001_59]); (with_reducible repeat (first | refine blk_drewN ?_ _ | refine blk_drew ?_ | refine blk_alloc ?_ _)); exact BK190.out⟩, ⟨by (try simp only [hl191001_59]); (with_reducible repeat (first | refine blk_drewN ?_ _ | refine blk_drew ?_ | refine blk_alloc ?_ _)); exact BK196.out⟩, ⟨by (try simp only [hl191001_59]); (with_reducible repeat (first | refine blk_drewN ?_ _ | refine blk_drew ?_ | refine blk_alloc ?_ _)); exact BK218.out⟩, ⟨by repeat (first | (with_reducible first | exact HB.out | apply below_alloc | apply pw_below_drewN | apply below_drew1 | refine below_set ?_ GE174.out | refine below_set ?_ GE185.out | refine below_set ?_ GE190.out | refine below_set ?_ GE196.out | refine below_set ?_ GE218.out) | exact HB.out)⟩⟩
                        · replace c118 := Bool.eq_false_iff.mpr c118
                          subst c118
                          have H1 : (laws_FnExactMirrorFabric.j2 kj59 t206 true t191 t207) = some r := by rw [if_neg (show ¬ (false = true) by decide)] at H; exact H
                          clear H
                          have H := H1
                          clear H1
                          have H' := Aside0.mk H
                          clear H
                          have hnb129 := NB218_174.out
                          have hnc129 := NB174_218.out
                          have hnb130 := NB218_185.out
                          have hnc130 := NB185_218.out
                          have hnb131 := NB218_190.out
                          have hnc131 := NB190_218.out
                          have hnb132 := NB218_196.out
                          have hnc132 := NB196_218.out
                          have hcz133_0 : w110.cell? ⟨gb218, 0, none⟩ = some (.int .i16 0) := (blk_cell BK218.out 0).trans rfl
                          have hcz133_1 : w110.cell? ⟨gb218, 1, none⟩ = some (.slice none 0 0) := (blk_cell BK218.out 1).trans rfl
                          have hfz133_0 := blk_frozen BK218.out 0
                          have hfz133_1 := blk_frozen BK218.out 1
                          have hnb134 := NB185_174.out
                          have hnc134 := NB174_185.out
                          have hnb135 := NB185_190.out
                          have hnc135 := NB190_185.out
                          have hnb136 := NB185_196.out
                          have hnc136 := NB196_185.out
                          have hcz137_0 : w110.cell? ⟨gb185, 0, none⟩ = some (.int .i16 t180) := (blk_cell BK185.out 0).trans rfl
                          have hcz137_1 : w110.cell? ⟨gb185, 1, none⟩ = some (.slice Ao22 t181.length co22) := (blk_cell BK185.out 1).trans rfl
                          have hfz137_0 := blk_frozen BK185.out 0
                          have hfz137_1 := blk_frozen BK185.out 1
                          go_wp2_with (first | ((with_reducible refine gate_callee (f := 36) rfl ?_); refine goesL_ (some 81) rfl rfl Try.func36 (by kernel_rfl) rfl #[.agg #[.int .i16 t213, .slice Ao116 t214.length co116], .agg #[.int .i16 t180, .slice Ao22 t181.length co22]] rfl (by (try simp only [List.map_toArray, List.map_cons, List.map_nil]); first | done | rfl | (simp only [List.length_drop, List.length_take]; rfl)) ?_; (with_reducible refine (laws_eqFabric.calls kj59 t213 _ _ t214 t180 _ _ t181 false _ ?side1 ?side2 ?side3 ?side4 A117.out).mono ?_); (case side1 => refine (Kd.R_reads' (e := 9) (base := w.heap.size) (ok := fun k_ => ((((True ∧ some k_ ≠ (.slice Ao22 t181.length co22 : Value).ownBlock) ∧ some k_ ≠ (.slice Ao29 t204.length co29 : Value).ownBlock) ∧ some k_ ≠ (.slice Ao36 t192.length co36 : Value).ownBlock) ∧ some k_ ≠ (.slice Ao108 t210.length co108 : Value).ownBlock)) (n := t214.length) (c := co116) ?_).2.2; exact (by (with_reducible repeat (first | apply Kd.R_alloc | apply Kd.R_drewN | apply Kd.R_drew)); exact (Kd.R_mono (Kd.R_far (p := ⟨gb218, 1, none⟩) (Kd.R_far (p := ⟨gb218, 0, none⟩) (Kd.R_types HO216.out BK218.out (by decide)) (fun _ hk => hk.2) (.int .i16 t213)) (fun _ hk => hk.2) (.slice Ao116 t214.length co116)) (fun _ h_ => h_.1)))); (case side2 => exact (Kd.R_reads' HO216.out).2.1); (case side3 => refine (Kd.R_reads' (e := 9) (base := w.heap.size) (ok := fun k_ => (((some k_ ≠ (.slice Ao29 t204.length co29 : Value).ownBlock ∧ some k_ ≠ (.slice Ao36 t192.length co36 : Value).ownBlock) ∧ some k_ ≠ (.slice Ao108 t210.length co108 : Value).ownBlock) ∧ some k_ ≠ (.slice Ao116 t214.length co116 : Value).ownBlock)) (n := t181.length) (c := co22) ?_).2.2; exact (by (with_reducible repeat (first | apply Kd.R_alloc | apply Kd.R_drewN | apply Kd.R_drew)); exact (Kd.R_mono (Kd.R_far (p := ⟨gb218, 1, none⟩) (Kd.R_far (p := ⟨gb218, 0, none⟩) (Kd.R_types HO_186001.out BK218.out (by decide)) (fun _ hk => hk.2) (.int .i16 t213)) (fun _ hk => hk.2) (.slice Ao116 t214.length co116)) (fun _ h_ => h_.1)))); (case side4 => exact (Kd.R_reads' HO_186001.out).2.1); rintro e w138 ⟨rfl, hb⟩; refine ⟨_, rfl, ?_⟩; have n0_ := Aside0.mk (Kd.R_below (by (with_reducible repeat (first | apply Kd.R_alloc | apply Kd.R_drewN | apply Kd.R_drew)); exact (Kd.R_mono (Kd.R_far (p := ⟨gb218, 1, none⟩) (Kd.R_far (p := ⟨gb218, 0, none⟩) (Kd.R_types HO_186001.out BK218.out (by decide)) (fun _ hk => hk.2) (.int .i16 t213)) (fun _ hk => hk.2) (.slice Ao116 t214.length co116)) (fun _ h_ => h_.1))) hb); have n1_ := Aside0.mk (Kd.R_below (by (with_reducible repeat (first | apply Kd.R_alloc | apply Kd.R_drewN | apply Kd.R_drew)); exact (Kd.R_mono (Kd.R_far (p := ⟨gb218, 1, none⟩) (Kd.R_far (p := ⟨gb218, 0, none⟩) (Kd.R_types HO_191001.out BK218.out (by decide)) (fun _ hk => hk.2) (.int .i16 t213)) (fun _ hk => hk.2) (.slice Ao116 t214.length co116)) (fun _ h_ => h_.1))) hb); have n2_ := Aside0.mk (Kd.R_below (by (with_reducible repeat (first | apply Kd.R_alloc | apply Kd.R_drewN | apply Kd.R_drew)); exact (Kd.R_mono (Kd.R_far (p := ⟨gb218, 1, none⟩) (Kd.R_far (p := ⟨gb218, 0, none⟩) (Kd.R_types HO_197001.out BK218.out (by decide)) (fun _ hk => hk.2) (.int .i16 t213)) (fun _ hk => hk.2) (.slice Ao116 t214.length co116)) (fun _ h_ => h_.1))) hb); have n3_ := Aside0.mk (Kd.R_below (by (with_reducible repeat (first | apply Kd.R_alloc | apply Kd.R_drewN | apply Kd.R_drew)); exact (Kd.R_mono (Kd.R_far (p := ⟨gb218, 1, none⟩) (Kd.R_far (p := ⟨gb218, 0, none⟩) (Kd.R_types HO212.out BK218.out (by decide)) (fun _ hk => hk.2) (.int .i16 t213)) (fun _ hk => hk.2) (.slice Ao116 t214.length co116)) (fun _ h_ => h_.1))) hb); have n4_ := Aside0.mk (Kd.R_below (by (with_reducible repeat (first | apply Kd.R_alloc | apply Kd.R_drewN | apply Kd.R_drew)); exact (Kd.R_mono (Kd.R_far (p := ⟨gb218, 1, none⟩) (Kd.R_far (p := ⟨gb218, 0, none⟩) (Kd.R_types HO216.out BK218.out (by decide)) (fun _ hk => hk.2) (.int .i16 t213)) (fun _ hk => hk.2) (.slice Ao116 t214.length co116)) (fun _ h_ => h_.1))) hb); have n5_ := Aside0.mk (blk_below (g := gb174) (o := .cells #[.int .i16 a0_0, .slice A0_1 l0_1.length c0_1] 55 (0, 0)) (by (with_reducible repeat (first | refine blk_drewN ?_ _ | refine blk_drew ?_ | refine blk_alloc ?_ _)); refine blk_far ?_ NB174_218.out _; (with_reducible repeat (first | refine blk_drewN ?_ _ | refine blk_drew ?_ | refine blk_alloc ?_ _)); refine blk_far ?_ NB174_218.out _; (with_reducible repeat (first | refine blk_drewN ?_ _ | refine blk_drew ?_ | refine blk_alloc ?_ _)); exact BK174.out) hb); have n6_ := Aside0.mk (blk_below (g := gb185) (o := .cells #[.int .i16 t180, .slice Ao22 t181.length co22] 57 (0, 0)) (by (with_reducible repeat (first | refine blk_drewN ?_ _ | refine blk_drew ?_ | refine blk_alloc ?_ _)); refine blk_far ?_ NB185_218.out _; (with_reducible repeat (first | refine blk_drewN ?_ _ | refine blk_drew ?_ | refine blk_alloc ?_ _)); refine blk_far ?_ NB185_218.out _; (with_reducible repeat (first | refine blk_drewN ?_ _ | refine blk_drew ?_ | refine blk_alloc ?_ _)); exact BK185.out) hb); have n7_ := Aside0.mk (blk_below (g := gb190) (o := .cells #[.int .i16 t186, .slice Ao29 t204.length co29] 57 (0, 0)) (by (with_reducible repeat (first | refine blk_drewN ?_ _ | refine blk_drew ?_ | refine blk_alloc ?_ _)); refine blk_far ?_ NB190_218.out _; (with_reducible repeat (first | refine blk_drewN ?_ _ | refine blk_drew ?_ | refine blk_alloc ?_ _)); refine blk_far ?_ NB190_218.out _; (with_reducible repeat (first | refine blk_drewN ?_ _ | refine blk_drew ?_ | refine blk_alloc ?_ _)); exact BK190.out) hb); have n8_ := Aside0.mk (blk_below (g := gb196) (o := .cells #[.int .i16 t191, .slice Ao36 t192.length co36] 57 (0, 0)) (by (with_reducible repeat (first | refine blk_drewN ?_ _ | refine blk_drew ?_ | refine blk_alloc ?_ _)); refine blk_far ?_ NB196_218.out _; (with_reducible repeat (first | refine blk_drewN ?_ _ | refine blk_drew ?_ | refine blk_alloc ?_ _)); refine blk_far ?_ NB196_218.out _; (with_reducible repeat (first | refine blk_drewN ?_ _ | refine blk_drew ?_ | refine blk_alloc ?_ _)); exact BK196.out) hb); have n9_ := Aside0.mk (blk_below (g := gb218) (o := .cells #[.int .i16 t213, .slice Ao116 t214.length co116] 57 (0, 0)) (by (with_reducible repeat (first | refine blk_drewN ?_ _ | refine blk_drew ?_ | refine blk_alloc ?_ _)); refine blk_put (cs := #[.int .i16 t213, .slice none 0 0]) ?_ 1 _ rfl; (with_reducible repeat (first | refine blk_drewN ?_ _ | refine blk_drew ?_ | refine blk_alloc ?_ _)); refine blk_put (cs := #[.int .i16 0, .slice none 0 0]) ?_ 0 _ rfl; (with_reducible repeat (first | refine blk_drewN ?_ _ | refine blk_drew ?_ | refine blk_alloc ?_ _)); exact BK218.out) hb); have n10_ := Aside0.mk (below_step (by repeat (first | (with_reducible first | exact HB.out | apply below_alloc | apply pw_below_drewN | apply below_drew1 | refine below_set ?_ GE174.out | refine below_set ?_ GE185.out | refine below_set ?_ GE190.out | refine below_set ?_ GE196.out | refine below_set ?_ GE218.out) | exact HB.out)) hb); clear HO_186001; clear HO_191001; clear HO_197001; clear HO212; clear HO216; clear BK174; clear BK185; clear BK190; clear BK196; clear BK218; clear HB; have HO_186001 := n0_; have HO_191001 := n1_; have HO_197001 := n2_; have HO212 := n3_; have HO216 := n4_; have BK174 := n5_; have BK185 := n6_; have BK190 := n7_; have BK196 := n8_; have BK218 := n9_; have HB := n10_; clear n0_ n1_ n2_ n3_ n4_ n5_ n6_ n7_ n8_ n9_ n10_; (try clear hb); (try clear hb2); (try clear hk); (try clear hi)))
                          go_meet
                          case rel => exact ⟨_, (true), (by first | rfl | (simp; done) | (simp [*]; done)), H', ⟨by have := HJ10.out; have := HJ59.out; first | omega | exact Nat.le_refl _⟩, ⟨by (try simp only [hl191001_59]); (with_reducible repeat (first | apply Kd.R_alloc | apply Kd.R_drewN | apply Kd.R_drew)); exact Kd.R_mono HO_186001.out (fun _ hk => ⟨hk.1.1.1, ⟨hk.1.1.2, hk.2⟩⟩)⟩, ⟨by (try simp only [hl191001_59]); (with_reducible repeat (first | apply Kd.R_alloc | apply Kd.R_drewN | apply Kd.R_drew)); exact Kd.R_mono HO_191001.out (fun _ hk => ⟨hk.1.1.1, ⟨hk.1.1.2, hk.2⟩⟩)⟩, ⟨by (try simp only [hl191001_59]); (with_reducible repeat (first | apply Kd.R_alloc | apply Kd.R_drewN | apply Kd.R_drew)); exact Kd.R_mono HO_197001.out (fun _ hk => ⟨hk.1.1.1, ⟨hk.1.1.2, hk.2⟩⟩)⟩, ⟨by (try simp only [hl191001_59]); (with_reducible repeat (first | apply Kd.R_alloc | apply Kd.R_drewN | apply Kd.R_drew)); exact Kd.R_mono HO216.out (fun _ hk => ⟨hk.1.1.1.2, ⟨hk.1.1.2, hk.1.2⟩⟩)⟩, ⟨by (try simp only [hl191001_59]); (with_reducible repeat (first | refine blk_drewN ?_ _ | refine blk_drew ?_ | refine blk_alloc ?_ _)); exact BK174.out⟩, ⟨by (try simp only [hl191001_59]); (with_reducible repeat (first | refine blk_drewN ?_ _ | refine blk_drew ?_ | refine blk_alloc ?_ _)); exact BK185.out⟩, ⟨by (try simp only [hl191001_59]); (with_reducible repeat (first | refine blk_drewN ?_ _ | refine blk_drew ?_ | refine blk_alloc ?_ _)); exact BK190.out⟩, ⟨by (try simp only [hl191001_59]); (with_reducible repeat (first | refine blk_drewN ?_ _ | refine blk_drew ?_ | refine blk_alloc ?_ _)); exact BK196.out⟩, ⟨by (try simp only [hl191001_59]); (with_reducible repeat (first | refine blk_drewN ?_ _ | refine blk_drew ?_ | refine blk_alloc ?_ _)); exact BK218.out⟩, ⟨by repeat (first | (with_reducible first | exact HB.out | apply below_alloc | apply pw_below_drewN | apply below_drew1 | refine below_set ?_ GE174.out | refine below_set ?_ GE185.out | refine below_set ?_ GE190.out | refine below_set ?_ GE196.out | refine below_set ?_ GE218.out) | exact HB.out)⟩⟩
                      case rest =>
                        as_aux_lemma =>
                        clear HC96
                        try clear c1
                        try clear c2
                        try clear p2
                        try clear c3
                        try clear c3b0
                        try clear c4
                        try clear c5
                        try clear c6
                        try clear c7
                        try clear c8
                        try clear c9
                        try clear c10
                        try clear c11
                        try clear c12
                        try clear c13
                        try clear c20
                        try clear c26
                        try clear c27
                        try clear c32
                        try clear c33
                        try clear c34
                        try clear c35
                        try clear c36
                        try clear c37
                        try clear c38
                        try clear c39
                        try clear c40
                        try clear c41
                        try clear c43
                        try clear c44
                        try clear c47
                        try clear c48
                        try clear c49
                        try clear c51
                        try clear c52
                        try clear c55
                        try clear c58
                        try clear c65
                        try clear c66
                        try clear c67
                        try clear c70
                        try clear c70b0
                        try clear c72
                        try clear c73
                        try clear c74
                        try clear c75
                        try clear c77
                        try clear c78
                        try clear c81
                        try clear c82
                        try clear c83
                        try clear c85
                        try clear c86
                        try clear c89
                        try clear c92
                        try clear c92b0
                        try clear c93
                        try clear c93b0
                        try clear c93b1
                        try clear c97
                        try clear c98
                        try clear c99
                        try clear c104
                        try clear c105
                        try clear c111
                        try clear c112
                        try clear c113
                        try clear c114
                        try clear c118
                        try clear c119
                        try clear c120
                        try clear c121
                        try clear c122
                        try clear c124
                        try clear c125
                        try clear c126
                        try clear c129
                        try clear c130
                        try clear c131
                        try clear c132
                        try clear c134
                        try clear c135
                        try clear c136
                        try clear hcz100_0
                        try clear hcz100_1
                        try clear hcz102_0
                        try clear hcz102_1
                        try clear hcz106_0
                        try clear hcz106_1
                        try clear hcz115_0
                        try clear hcz115_1
                        try clear hcz123_0
                        try clear hcz123_1
                        try clear hcz127_0
                        try clear hcz127_1
                        try clear hcz133_0
                        try clear hcz133_1
                        try clear hcz137_0
                        try clear hcz137_1
                        try clear hcz13_0
                        try clear hcz13_1
                        try clear hcz15_0
                        try clear hcz15_1
                        try clear hcz21_0
                        try clear hcz21_1
                        try clear hcz23_0
                        try clear hcz23_1
                        try clear hcz28_0
                        try clear hcz28_1
                        try clear hcz35_0
                        try clear hcz35_1
                        try clear hcz42_0
                        try clear hcz42_1
                        try clear hcz45_0
                        try clear hcz45_1
                        try clear hcz50_0
                        try clear hcz50_1
                        try clear hcz53_0
                        try clear hcz53_1
                        try clear hcz5_0
                        try clear hcz5_1
                        try clear hcz68_0
                        try clear hcz68_1
                        try clear hcz76_0
                        try clear hcz76_1
                        try clear hcz79_0
                        try clear hcz79_1
                        try clear hcz84_0
                        try clear hcz84_1
                        try clear hcz87_0
                        try clear hcz87_1
                        try clear hfz100_0
                        try clear hfz100_1
                        try clear hfz102_0
                        try clear hfz102_1
                        try clear hfz106_0
                        try clear hfz106_1
                        try clear hfz115_0
                        try clear hfz115_1
                        try clear hfz123_0
                        try clear hfz123_1
                        try clear hfz127_0
                        try clear hfz127_1
                        try clear hfz133_0
                        try clear hfz133_1
                        try clear hfz137_0
                        try clear hfz137_1
                        try clear hfz13_0
                        try clear hfz13_1
                        try clear hfz15_0
                        try clear hfz15_1
                        try clear hfz21_0
                        try clear hfz21_1
                        try clear hfz23_0
                        try clear hfz23_1
                        try clear hfz28_0
                        try clear hfz28_1
                        try clear hfz35_0
                        try clear hfz35_1
                        try clear hfz42_0
                        try clear hfz42_1
                        try clear hfz45_0
                        try clear hfz45_1
                        try clear hfz50_0
                        try clear hfz50_1
                        try clear hfz53_0
                        try clear hfz53_1
                        try clear hfz5_0
                        try clear hfz5_1
                        try clear hfz68_0
                        try clear hfz68_1
                        try clear hfz76_0
                        try clear hfz76_1
                        try clear hfz79_0
                        try clear hfz79_1
                        try clear hfz84_0
                        try clear hfz84_1
                        try clear hfz87_0
                        try clear hfz87_1
                        try clear p2
                        obtain ⟨kq, x87_95, rfl, HA, HJ95, HO_186001, HO_191001, HO_197001, HO_219001, BK174, BK185, BK190, BK196, BK218, HB⟩ := hcut
                        have hl197001_95 := (Kd.R_reads' HO_197001.out).1
                        rw [hl197001_95] at HO_197001
                        (try simp only [hl197001_95])
                        (try simp only [hl197001_95] at BK174)
                        (try simp only [hl197001_95] at BK185)
                        (try simp only [hl197001_95] at BK190)
                        (try simp only [hl197001_95] at BK196)
                        (try simp only [hl197001_95] at BK218)
                        (try simp only [hl197001_95] at HO_186001)
                        (try simp only [hl197001_95] at HO_191001)
                        (try simp only [hl197001_95] at HO_219001)
                        cases kq with
                        | zero => exact absurd HA.out (by simp [laws_FnExactMirrorFabric.j2])
                        | succ kj95 =>
                          have H := HA.out
                          clear HA
                          simp only [laws_FnExactMirrorFabric.j2] at H
                          by_cases c139 : x87_95 = true
                          · subst c139
                            have H1 : (none) = some r := by rw [if_pos rfl] at H; exact H
                            clear H
                            have H := H1
                            clear H1
                            exact absurd H (by simp)
                          · replace c139 := Bool.eq_false_iff.mpr c139
                            subst c139
                            have H1 : ((laws_heldFabric.f kj95 t191 t207 1).bind fun t220 => (if t220 < 0 then (none) else (if t220 = t206 then (some true) else (none)))) = some r := by rw [if_neg (show ¬ (false = true) by decide)] at H; exact H
                            clear H
                            have H := H1
                            clear H1
                            replace H := Option.bind_eq_some_iff.mp H
                            obtain ⟨t220, A1400, H⟩ := H
                            replace H : (if t220 < 0 then (none) else (if t220 = t206 then (some true) else (none))) = some r := H
                            have A140 := Aside0.mk A1400
                            clear A1400
                            by_cases c141 : t220 < 0
                            · rw [if_pos c141] at H
                              exact absurd H (by simp)
                            · rw [if_neg c141] at H
                              have c141b0 : decide (t220 < 0) = false := decide_eq_false c141
                              clear c141
                              by_cases c142 : t220 = t206
                              · rw [if_pos c142] at H
                                have c142b0 : (t220 == t206) = true := beq_iff_eq.mpr c142
                                have c142b1 : (t220 != t206) = false := bne_eq_false_iff_eq.mpr c142
                                clear c142
                                obtain rfl := Option.some.inj H
                                have hnb143 := NB196_174.out
                                have hnc143 := NB174_196.out
                                have hnb144 := NB196_185.out
                                have hnc144 := NB185_196.out
                                have hnb145 := NB196_190.out
                                have hnc145 := NB190_196.out
                                have hnb146 := NB196_218.out
                                have hnc146 := NB218_196.out
                                have hcz147_0 : wc.cell? ⟨gb196, 0, none⟩ = some (.int .i16 t191) := (blk_cell BK196.out 0).trans rfl
                                have hcz147_1 : wc.cell? ⟨gb196, 1, none⟩ = some (.slice Ao36 t207.length co36) := (blk_cell BK196.out 1).trans rfl
                                have hfz147_0 := blk_frozen BK196.out 0
                                have hfz147_1 := blk_frozen BK196.out 1
                                go_wp2_with (first | ((with_reducible refine gate_callee (f := 38) rfl ?_); refine goesL_ (some 90) rfl rfl Try.func38 (by kernel_rfl) rfl #[.agg #[.int .i16 t191, .slice Ao36 t207.length co36], .int .i64 1] rfl (by (try simp only [List.map_toArray, List.map_cons, List.map_nil]); first | done | rfl | (simp only [List.length_drop, List.length_take]; rfl)) ?_; (with_reducible refine (laws_heldFabric.calls kj95 t191 _ _ t207 1 t220 _ ?side1 ?side2 A140.out).mono ?_); (case side1 => repeat (first | exact (Kd.R_reads' HO_197001.out).2.2 | (with_reducible refine Kd.C_alloc ?_ _) | (with_reducible refine Kd.C_drewN ?_ _) | (with_reducible refine Kd.C_drew ?_))); (case side2 => exact (Kd.R_reads' HO_197001.out).2.1); rintro e w148 ⟨rfl, hb⟩; refine ⟨_, rfl, ?_⟩; have n0_ := Aside0.mk (Kd.R_below (by (with_reducible repeat (first | apply Kd.R_alloc | apply Kd.R_drewN | apply Kd.R_drew)); exact HO_186001.out) hb); have n1_ := Aside0.mk (Kd.R_below (by (with_reducible repeat (first | apply Kd.R_alloc | apply Kd.R_drewN | apply Kd.R_drew)); exact HO_191001.out) hb); have n2_ := Aside0.mk (Kd.R_below (by (with_reducible repeat (first | apply Kd.R_alloc | apply Kd.R_drewN | apply Kd.R_drew)); exact HO_197001.out) hb); have n3_ := Aside0.mk (Kd.R_below (by (with_reducible repeat (first | apply Kd.R_alloc | apply Kd.R_drewN | apply Kd.R_drew)); exact HO_219001.out) hb); have n4_ := Aside0.mk (blk_below (g := gb174) (o := .cells #[.int .i16 a0_0, .slice A0_1 l0_1.length c0_1] 55 (0, 0)) (by (with_reducible repeat (first | refine blk_drewN ?_ _ | refine blk_drew ?_ | refine blk_alloc ?_ _)); exact BK174.out) hb); have n5_ := Aside0.mk (blk_below (g := gb185) (o := .cells #[.int .i16 t180, .slice Ao22 t181.length co22] 57 (0, 0)) (by (with_reducible repeat (first | refine blk_drewN ?_ _ | refine blk_drew ?_ | refine blk_alloc ?_ _)); exact BK185.out) hb); have n6_ := Aside0.mk (blk_below (g := gb190) (o := .cells #[.int .i16 t186, .slice Ao29 t204.length co29] 57 (0, 0)) (by (with_reducible repeat (first | refine blk_drewN ?_ _ | refine blk_drew ?_ | refine blk_alloc ?_ _)); exact BK190.out) hb); have n7_ := Aside0.mk (blk_below (g := gb196) (o := .cells #[.int .i16 t191, .slice Ao36 t207.length co36] 57 (0, 0)) (by (with_reducible repeat (first | refine blk_drewN ?_ _ | refine blk_drew ?_ | refine blk_alloc ?_ _)); exact BK196.out) hb); have n8_ := Aside0.mk (blk_below (g := gb218) (o := .cells #[.int .i16 t213, .slice Ao116 t214.length co116] 57 (0, 0)) (by (with_reducible repeat (first | refine blk_drewN ?_ _ | refine blk_drew ?_ | refine blk_alloc ?_ _)); exact BK218.out) hb); have n9_ := Aside0.mk (below_step (by repeat (first | (with_reducible first | exact HB.out | apply below_alloc | apply pw_below_drewN | apply below_drew1 | refine below_set ?_ GE174.out | refine below_set ?_ GE185.out | refine below_set ?_ GE190.out | refine below_set ?_ GE196.out | refine below_set ?_ GE218.out) | exact HB.out)) hb); clear HO_186001; clear HO_191001; clear HO_197001; clear HO_219001; clear BK174; clear BK185; clear BK190; clear BK196; clear BK218; clear HB; have HO_186001 := n0_; have HO_191001 := n1_; have HO_197001 := n2_; have HO_219001 := n3_; have BK174 := n4_; have BK185 := n5_; have BK190 := n6_; have BK196 := n7_; have BK218 := n8_; have HB := n9_; clear n0_ n1_ n2_ n3_ n4_ n5_ n6_ n7_ n8_ n9_; (try clear hb); (try clear hb2); (try clear hk); (try clear hi)))
                                go_ret
                                exact ⟨by first | rfl | (simp [errW_none, errW_some] <;> rfl) | (simp [*, errW_none, errW_some] <;> rfl), by repeat (first | (with_reducible first | exact HB.out | apply below_alloc | apply pw_below_drewN | apply below_drew1 | refine below_set ?_ GE174.out | refine below_set ?_ GE185.out | refine below_set ?_ GE190.out | refine below_set ?_ GE196.out | refine below_set ?_ GE218.out) | exact HB.out)⟩
                              · rw [if_neg c142] at H
                                exact absurd H (by simp)
                    · rw [if_neg c93] at H
                      exact absurd H (by simp)
          · replace c58 := Bool.eq_false_iff.mpr c58
            subst c58
            have H1 : (none) = some r := by rw [if_neg (show ¬ (false = true) by decide)] at H; exact H
            clear H
            have H := H1
            clear H1
            exact absurd H (by simp)

/-- THE ONE PURE STATEMENT of laws_FnExactMirrorFabric: yours. -/
def laws_FnExactMirrorFabric.Pure : Prop := ∀ (a0_0 : Int) (l0_1 : List ByteArray), (Lit.int .i16 a0_0).wf = true → (l0_1.length * 16 ≤ 140737488351232 ∧ ∀ x_ ∈ l0_1, x_.size ≤ 140737488351232) → ∃ k, laws_FnExactMirrorFabric.f k a0_0 l0_1 = some true
theorem laws_FnExactMirrorFabric.walk (P : laws_FnExactMirrorFabric.Pure) (a0_0 : Int) (A0_1 : Option Addr) (c0_1 : Nat) (l0_1 : List ByteArray) (w : World) (hr0_1 : Kd.C Kd.string w A0_1 l0_1.length l0_1) (hc0_1 : l0_1.length ≤ c0_1) (g0_0 : (Lit.int .i16 a0_0).wf = true) (g0_1 : (l0_1.length * 16 ≤ 140737488351232 ∧ ∀ x_ ∈ l0_1, x_.size ≤ 140737488351232)) :
    Calls Try.prog 7 #[.agg #[.int .i16 a0_0, .slice A0_1 l0_1.length c0_1]] w fun e w' => e = .returned (.bool true) ∧ Below w.heap.size w w' := by
  obtain ⟨k, h⟩ := P a0_0 l0_1 g0_0 g0_1
  refine (laws_FnExactMirrorFabric.calls k a0_0 A0_1 c0_1 l0_1 true w hr0_1 hc0_1 h).mono ?_
  rintro e w' ⟨rfl, hd⟩
  exact ⟨rfl, hd⟩

end Go.Proofs.Ytfkckobfpfkbjaa.XFnExactMirrorFabric
