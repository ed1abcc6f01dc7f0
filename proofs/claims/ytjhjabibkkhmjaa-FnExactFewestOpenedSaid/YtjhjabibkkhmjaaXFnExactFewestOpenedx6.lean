/- The functions that the law FnExactFewestOpened reaches: each as a Lean function, and that its call does what that function says; no conditions. -/
import Derived.Test.YtjhjabibkkhmjaaXFnExactFewestOpenedx0
import Derived.Test.YtjhjabibkkhmjaaXFnExactFewestOpenedx1
import Derived.Test.YtjhjabibkkhmjaaXFnExactFewestOpenedx2
import Derived.Test.YtjhjabibkkhmjaaXFnExactFewestOpenedx3
import Derived.Test.YtjhjabibkkhmjaaXFnExactFewestOpenedx4
import Derived.Test.YtjhjabibkkhmjaaXFnExactFewestOpenedx5
namespace Go.Proofs.Ytjhjabibkkhmjaa.XFnExactFewestOpened
open Go.RowKit Go.Proofs.YtjhjabibkkhmjaaW.PrintWords Go.Proofs.YtjhjabibkkhmjaaW.PrintLast Go.Proofs.YtjhjabibkkhmjaaW.PrintMore
attribute [local go_sem] max2_int min2_int max_two min_two max_three min_three max_four min_four   -- for this text's walks alone
set_option linter.unusedVariables false
set_option linter.unusedSimpArgs false

/-! ### laws_FnExactFewestOpened: function 5 -/
mutual
def laws_FnExactFewestOpened.j0 : Nat → List (S116) → List Int → List Int → Int → Int → List (S88) → List Int → List Int → Int → Int → Bool → Option (Bool)
  | 0, _, _, _, _, _, _, _, _, _, _, _ => none
  | k + 1, x0, x1, x6, x7, x8, x9, x10, x11, x12, x13, x61 => if x61 = true then (none) else ((laws_toYarnS.f k x0).bind fun t175 => ((laws_eqYarnS.f k x9 t175).bind fun t178 => (if t178 = true then ((laws_toInt64S.f k x1).bind fun t179 => ((laws_eqInt64S.f k x10 t179).bind fun t182 => (if t182 = true then ((laws_markYarnS.f k x9 1).bind fun bt183 => ((laws_markInt64S.f k x10 bt183.1).bind fun bt185 => (if bt185.1 < 0 then (laws_FnExactFewestOpened.j1 k x0 x1 x6 x7 x8 x11 true) else ((laws_eqInt64S.f k x11 x6).bind fun t187 => (if t187 = true then (if x12 = x7 then (laws_FnExactFewestOpened.j1 k x0 x1 x6 x7 x8 x11 (x13 != x8)) else (laws_FnExactFewestOpened.j1 k x0 x1 x6 x7 x8 x11 true)) else (laws_FnExactFewestOpened.j1 k x0 x1 x6 x7 x8 x11 true)))))) else (none)))) else (none))))
def laws_FnExactFewestOpened.j1 : Nat → List (S116) → List Int → List Int → Int → Int → List Int → Bool → Option (Bool)
  | 0, _, _, _, _, _, _, _ => none
  | k + 1, x0, x1, x6, x7, x8, x11, x95 => if x95 = true then (none) else ((laws_markInt64S.f k x11 1).bind fun bt188 => ((laws_heldInt64S.f k bt188.2 1).bind fun t190 => (if t190 < 0 then (none) else (if t190 = bt188.1 then ((laws_toYarnS.f k x0).bind fun t191 => ((laws_toInt64S.f k x1).bind fun t194 => ((impl_FewestOpened.f k t191 t194).bind fun bt197 => ((laws_eqInt64S.f k bt197.1 x6).bind fun t202 => (if t202 = true then (if bt197.2.1 = x7 then (laws_FnExactFewestOpened.j2 k bt188.2 bt188.1 (bt197.2.2 != x8)) else (laws_FnExactFewestOpened.j2 k bt188.2 bt188.1 true)) else (laws_FnExactFewestOpened.j2 k bt188.2 bt188.1 true)))))) else (none)))))
def laws_FnExactFewestOpened.j2 : Nat → List Int → Int → Bool → Option (Bool)
  | 0, _, _, _ => none
  | k + 1, x11, x15, x129 => if x129 = true then (none) else ((laws_heldInt64S.f k x11 1).bind fun t203 => (if t203 < 0 then (none) else (if t203 = x15 then (some true) else (none))))
end
def laws_FnExactFewestOpened.f (k : Nat) (l0 : List (S116)) (l1 : List Int) : Option (Bool) := if (l1.length : Int) > 1048576 then (some true) else ((laws_szYarnS.f l0 1048576).bind fun t151 => (if t151 < 0 then (some true) else ((laws_toYarnS.f k l0).bind fun t152 => ((laws_toInt64S.f k l1).bind fun t155 => ((spec_FewestOpened.f k t152 t155).bind fun bt158 => ((laws_toYarnS.f k l0).bind fun t163 => ((laws_toInt64S.f k l1).bind fun t166 => ((impl_FewestOpened.f k t163 t166).bind fun bt169 => ((laws_eqInt64S.f k bt169.1 bt158.1).bind fun t174 => (if t174 = true then (if bt169.2.1 = bt158.2.1 then (laws_FnExactFewestOpened.j0 k l0 l1 bt158.1 bt158.2.1 bt158.2.2 t163 t166 bt169.1 bt169.2.1 bt169.2.2 (bt169.2.2 != bt158.2.2)) else (laws_FnExactFewestOpened.j0 k l0 l1 bt158.1 bt158.2.1 bt158.2.2 t163 t166 bt169.1 bt169.2.1 bt169.2.2 true)) else (laws_FnExactFewestOpened.j0 k l0 l1 bt158.1 bt158.2.1 bt158.2.2 t163 t166 bt169.1 bt169.2.1 bt169.2.2 true)))))))))))
theorem laws_FnExactFewestOpened.mono_l : ∀ k, (∀ y0 y1 y2 y3 y4 y5 y6 y7 y8 y9 y10, LeO (laws_FnExactFewestOpened.j0 k y0 y1 y2 y3 y4 y5 y6 y7 y8 y9 y10) (laws_FnExactFewestOpened.j0 (k + 1) y0 y1 y2 y3 y4 y5 y6 y7 y8 y9 y10)) ∧ (∀ y0 y1 y2 y3 y4 y5 y6, LeO (laws_FnExactFewestOpened.j1 k y0 y1 y2 y3 y4 y5 y6) (laws_FnExactFewestOpened.j1 (k + 1) y0 y1 y2 y3 y4 y5 y6)) ∧ (∀ y0 y1 y2, LeO (laws_FnExactFewestOpened.j2 k y0 y1 y2) (laws_FnExactFewestOpened.j2 (k + 1) y0 y1 y2))
  | 0 => ⟨fun _ _ _ _ _ _ _ _ _ _ _ r h => by simp [laws_FnExactFewestOpened.j0] at h, fun _ _ _ _ _ _ _ r h => by simp [laws_FnExactFewestOpened.j1] at h, fun _ _ _ r h => by simp [laws_FnExactFewestOpened.j2] at h⟩
  | k + 1 => by
    obtain ⟨ih0, ih1, ih2⟩ := laws_FnExactFewestOpened.mono_l k
    refine ⟨?_, ?_, ?_⟩
    · intro y0 y1 y2 y3 y4 y5 y6 y7 y8 y9 y10
      unfold laws_FnExactFewestOpened.j0
      repeat' first
      | (with_reducible exact ih0 _ _ _ _ _ _ _ _ _ _ _)
      | (with_reducible exact ih1 _ _ _ _ _ _ _)
      | (with_reducible exact ih2 _ _ _)
      | (with_reducible exact impl_FewestOpened.mono _ _ _)
      | (with_reducible exact laws_eqInt64S.mono _ _ _)
      | (with_reducible exact laws_eqYarnS.mono _ _ _)
      | (with_reducible exact laws_heldInt64S.mono _ _ _)
      | (with_reducible exact laws_markInt64S.mono _ _ _)
      | (with_reducible exact laws_markYarnS.mono _ _ _)
      | (with_reducible exact laws_toInt64S.mono _ _)
      | (with_reducible exact laws_toYarnS.mono _ _)
      | (with_reducible exact spec_FewestOpened.mono _ _ _)
      | (with_reducible exact LeO.refl _)
      | (with_reducible exact LeO.none _)
      | (with_reducible refine LeO.ite ?_ ?_)
      | (with_reducible refine LeO.bind ?_ (fun _ => ?_))
      | (with_reducible refine allG_mono _ (fun _ => ?_))
      | (with_reducible refine idxG_mono _ (fun _ => ?_))
      | exact ih0 _ _ _ _ _ _ _ _ _ _ _
      | exact ih1 _ _ _ _ _ _ _
      | exact ih2 _ _ _
      | exact impl_FewestOpened.mono _ _ _
      | exact laws_eqInt64S.mono _ _ _
      | exact laws_eqYarnS.mono _ _ _
      | exact laws_heldInt64S.mono _ _ _
      | exact laws_markInt64S.mono _ _ _
      | exact laws_markYarnS.mono _ _ _
      | exact laws_toInt64S.mono _ _
      | exact laws_toYarnS.mono _ _
      | exact spec_FewestOpened.mono _ _ _
      | exact LeO.none _
      | refine LeO.ite ?_ ?_
      | refine LeO.bind ?_ (fun _ => ?_)
    · intro y0 y1 y2 y3 y4 y5 y6
      unfold laws_FnExactFewestOpened.j1
      repeat' first
      | (with_reducible exact ih0 _ _ _ _ _ _ _ _ _ _ _)
      | (with_reducible exact ih1 _ _ _ _ _ _ _)
      | (with_reducible exact ih2 _ _ _)
      | (with_reducible exact impl_FewestOpened.mono _ _ _)
      | (with_reducible exact laws_eqInt64S.mono _ _ _)
      | (with_reducible exact laws_eqYarnS.mono _ _ _)
      | (with_reducible exact laws_heldInt64S.mono _ _ _)
      | (with_reducible exact laws_markInt64S.mono _ _ _)
      | (with_reducible exact laws_markYarnS.mono _ _ _)
      | (with_reducible exact laws_toInt64S.mono _ _)
      | (with_reducible exact laws_toYarnS.mono _ _)
      | (with_reducible exact spec_FewestOpened.mono _ _ _)
      | (with_reducible exact LeO.refl _)
      | (with_reducible exact LeO.none _)
      | (with_reducible refine LeO.ite ?_ ?_)
      | (with_reducible refine LeO.bind ?_ (fun _ => ?_))
      | (with_reducible refine allG_mono _ (fun _ => ?_))
      | (with_reducible refine idxG_mono _ (fun _ => ?_))
      | exact ih0 _ _ _ _ _ _ _ _ _ _ _
      | exact ih1 _ _ _ _ _ _ _
      | exact ih2 _ _ _
      | exact impl_FewestOpened.mono _ _ _
      | exact laws_eqInt64S.mono _ _ _
      | exact laws_eqYarnS.mono _ _ _
      | exact laws_heldInt64S.mono _ _ _
      | exact laws_markInt64S.mono _ _ _
      | exact laws_markYarnS.mono _ _ _
      | exact laws_toInt64S.mono _ _
      | exact laws_toYarnS.mono _ _
      | exact spec_FewestOpened.mono _ _ _
      | exact LeO.none _
      | refine LeO.ite ?_ ?_
      | refine LeO.bind ?_ (fun _ => ?_)
    · intro y0 y1 y2
      unfold laws_FnExactFewestOpened.j2
      repeat' first
      | (with_reducible exact ih0 _ _ _ _ _ _ _ _ _ _ _)
      | (with_reducible exact ih1 _ _ _ _ _ _ _)
      | (with_reducible exact ih2 _ _ _)
      | (with_reducible exact impl_FewestOpened.mono _ _ _)
      | (with_reducible exact laws_eqInt64S.mono _ _ _)
      | (with_reducible exact laws_eqYarnS.mono _ _ _)
      | (with_reducible exact laws_heldInt64S.mono _ _ _)
      | (with_reducible exact laws_markInt64S.mono _ _ _)
      | (with_reducible exact laws_markYarnS.mono _ _ _)
      | (with_reducible exact laws_toInt64S.mono _ _)
      | (with_reducible exact laws_toYarnS.mono _ _)
      | (with_reducible exact spec_FewestOpened.mono _ _ _)
      | (with_reducible exact LeO.refl _)
      | (with_reducible exact LeO.none _)
      | (with_reducible refine LeO.ite ?_ ?_)
      | (with_reducible refine LeO.bind ?_ (fun _ => ?_))
      | (with_reducible refine allG_mono _ (fun _ => ?_))
      | (with_reducible refine idxG_mono _ (fun _ => ?_))
      | exact ih0 _ _ _ _ _ _ _ _ _ _ _
      | exact ih1 _ _ _ _ _ _ _
      | exact ih2 _ _ _
      | exact impl_FewestOpened.mono _ _ _
      | exact laws_eqInt64S.mono _ _ _
      | exact laws_eqYarnS.mono _ _ _
      | exact laws_heldInt64S.mono _ _ _
      | exact laws_markInt64S.mono _ _ _
      | exact laws_markYarnS.mono _ _ _
      | exact laws_toInt64S.mono _ _
      | exact laws_toYarnS.mono _ _
      | exact spec_FewestOpened.mono _ _ _
      | exact LeO.none _
      | refine LeO.ite ?_ ?_
      | refine LeO.bind ?_ (fun _ => ?_)
theorem laws_FnExactFewestOpened.mono : ∀ a0 a1 k, LeO (laws_FnExactFewestOpened.f k a0 a1) (laws_FnExactFewestOpened.f (k + 1) a0 a1) := by
  intro a0 a1 k
  obtain ⟨ih0, ih1, ih2⟩ := laws_FnExactFewestOpened.mono_l k
  unfold laws_FnExactFewestOpened.f
  repeat' first
      | (with_reducible exact ih0 _ _ _ _ _ _ _ _ _ _ _)
      | (with_reducible exact ih1 _ _ _ _ _ _ _)
      | (with_reducible exact ih2 _ _ _)
      | (with_reducible exact impl_FewestOpened.mono _ _ _)
      | (with_reducible exact laws_eqInt64S.mono _ _ _)
      | (with_reducible exact laws_eqYarnS.mono _ _ _)
      | (with_reducible exact laws_heldInt64S.mono _ _ _)
      | (with_reducible exact laws_markInt64S.mono _ _ _)
      | (with_reducible exact laws_markYarnS.mono _ _ _)
      | (with_reducible exact laws_toInt64S.mono _ _)
      | (with_reducible exact laws_toYarnS.mono _ _)
      | (with_reducible exact spec_FewestOpened.mono _ _ _)
      | (with_reducible exact LeO.refl _)
      | (with_reducible exact LeO.none _)
      | (with_reducible refine LeO.ite ?_ ?_)
      | (with_reducible refine LeO.bind ?_ (fun _ => ?_))
      | (with_reducible refine allG_mono _ (fun _ => ?_))
      | (with_reducible refine idxG_mono _ (fun _ => ?_))
      | exact ih0 _ _ _ _ _ _ _ _ _ _ _
      | exact ih1 _ _ _ _ _ _ _
      | exact ih2 _ _ _
      | exact impl_FewestOpened.mono _ _ _
      | exact laws_eqInt64S.mono _ _ _
      | exact laws_eqYarnS.mono _ _ _
      | exact laws_heldInt64S.mono _ _ _
      | exact laws_markInt64S.mono _ _ _
      | exact laws_markYarnS.mono _ _ _
      | exact laws_toInt64S.mono _ _
      | exact laws_toYarnS.mono _ _
      | exact spec_FewestOpened.mono _ _ _
      | exact LeO.none _
      | refine LeO.ite ?_ ?_
      | refine LeO.bind ?_ (fun _ => ?_)
set_option maxHeartbeats 8000000 in
set_option maxRecDepth 100000 in
theorem laws_FnExactFewestOpened.calls (k : Nat) (A0 : Option Addr) (c0 : Nat) (l0 : List (S116)) (A1 : Option Addr) (c1 : Nat) (l1 : List Int) (r : Bool) (w : World) (hr0 : Kd.C k116 w A0 l0.length l0) (hc0 : l0.length ≤ c0) (hr1 : Kd.C (Kd.int .i64) w A1 l1.length l1) (hc1 : l1.length ≤ c1) (h : laws_FnExactFewestOpened.f k l0 l1 = some r) :
    Calls Try.prog 5 #[.slice A0 l0.length c0, .slice A1 l1.length c1] w fun e w' => e = .returned (.bool r) ∧ Below w.heap.size w w' := by
  have HR0 := Aside0.mk hr0
  have HC0 := Aside0.mk hc0
  clear hr0 hc0
  have HR1 := Aside0.mk hr1
  have HC1 := Aside0.mk hc1
  clear hr1 hc1
  have HB := Aside0.mk (Below.refl w.heap.size w)
  have H : (if (l1.length : Int) > 1048576 then (some true) else ((laws_szYarnS.f l0 1048576).bind fun t151 => (if t151 < 0 then (some true) else ((laws_toYarnS.f k l0).bind fun t152 => ((laws_toInt64S.f k l1).bind fun t155 => ((spec_FewestOpened.f k t152 t155).bind fun bt158 => ((laws_toYarnS.f k l0).bind fun t163 => ((laws_toInt64S.f k l1).bind fun t166 => ((impl_FewestOpened.f k t163 t166).bind fun bt169 => ((laws_eqInt64S.f k bt169.1 bt158.1).bind fun t174 => (if t174 = true then (if bt169.2.1 = bt158.2.1 then (laws_FnExactFewestOpened.j0 k l0 l1 bt158.1 bt158.2.1 bt158.2.2 t163 t166 bt169.1 bt169.2.1 bt169.2.2 (bt169.2.2 != bt158.2.2)) else (laws_FnExactFewestOpened.j0 k l0 l1 bt158.1 bt158.2.1 bt158.2.2 t163 t166 bt169.1 bt169.2.1 bt169.2.2 true)) else (laws_FnExactFewestOpened.j0 k l0 l1 bt158.1 bt158.2.1 bt158.2.2 t163 t166 bt169.1 bt169.2.1 bt169.2.2 true)))))))))))) = some r := h
  clear h
  by_cases c3 : (l1.length : Int) > 1048576
  · rw [if_pos c3] at H
    have c3b0 : decide (1048576 < (l1.length : Int)) = true := decide_eq_true c3
    have c3b1 : decide (1048576 < l1.length) = true := decide_eq_true (by omega)
    clear c3
    obtain rfl := Option.some.inj H
    go_enter Try.func5, Try.ntmps5
    go_wp2
    go_ret
    exact ⟨by first | rfl | (simp [errW_none, errW_some] <;> rfl) | (simp [*, errW_none, errW_some] <;> rfl), by repeat (first | (with_reducible first | exact HB.out | apply below_alloc | apply pw_below_drewN | apply below_drew1) | exact HB.out)⟩
  · rw [if_neg c3] at H
    have c3b0 : decide (1048576 < (l1.length : Int)) = false := decide_eq_false c3
    have c3b1 : decide (1048576 < l1.length) = false := decide_eq_false (by omega)
    clear c3
    replace H := Option.bind_eq_some_iff.mp H
    obtain ⟨t151, A40, H⟩ := H
    replace H : (if t151 < 0 then (some true) else ((laws_toYarnS.f k l0).bind fun t152 => ((laws_toInt64S.f k l1).bind fun t155 => ((spec_FewestOpened.f k t152 t155).bind fun bt158 => ((laws_toYarnS.f k l0).bind fun t163 => ((laws_toInt64S.f k l1).bind fun t166 => ((impl_FewestOpened.f k t163 t166).bind fun bt169 => ((laws_eqInt64S.f k bt169.1 bt158.1).bind fun t174 => (if t174 = true then (if bt169.2.1 = bt158.2.1 then (laws_FnExactFewestOpened.j0 k l0 l1 bt158.1 bt158.2.1 bt158.2.2 t163 t166 bt169.1 bt169.2.1 bt169.2.2 (bt169.2.2 != bt158.2.2)) else (laws_FnExactFewestOpened.j0 k l0 l1 bt158.1 bt158.2.1 bt158.2.2 t163 t166 bt169.1 bt169.2.1 bt169.2.2 true)) else (laws_FnExactFewestOpened.j0 k l0 l1 bt158.1 bt158.2.1 bt158.2.2 t163 t166 bt169.1 bt169.2.1 bt169.2.2 true)))))))))) = some r := H
    have A4 := Aside0.mk A40
    clear A40
    by_cases c5 : t151 < 0
    · rw [if_pos c5] at H
      have c5b0 : decide (t151 < 0) = true := decide_eq_true c5
      clear c5
      obtain rfl := Option.some.inj H
      go_enter Try.func5, Try.ntmps5
      go_wp2_with (first | ((with_reducible refine gate_callee (f := 21) rfl ?_); refine goesL_ (some 25) rfl rfl Try.func21 (by kernel_rfl) rfl #[.slice A0 l0.length c0, .int .i64 1048576] rfl (by (try simp only [List.map_toArray, List.map_cons, List.map_nil]); first | done | rfl | (simp only [List.length_drop, List.length_take]; rfl)) ?_; (with_reducible refine (laws_szYarnS.calls _ _ l0 1048576 t151 _ ?side1 ?side2 A4.out).mono ?_); (case side1 => repeat (first | exact HR0.out | (with_reducible refine Kd.C_alloc ?_ _) | (with_reducible refine Kd.C_drewN ?_ _) | (with_reducible refine Kd.C_drew ?_))); (case side2 => exact HC0.out); rintro e w' ⟨rfl, ⟨nd, rfl⟩⟩; refine ⟨_, rfl, ?_⟩))
      go_ret
      exact ⟨by first | rfl | (simp [errW_none, errW_some] <;> rfl) | (simp [*, errW_none, errW_some] <;> rfl), by repeat (first | (with_reducible first | exact HB.out | apply below_alloc | apply pw_below_drewN | apply below_drew1) | exact HB.out)⟩
    · rw [if_neg c5] at H
      have c5b0 : decide (t151 < 0) = false := decide_eq_false c5
      clear c5
      replace H := Option.bind_eq_some_iff.mp H
      obtain ⟨t152, A60, H⟩ := H
      replace H : ((laws_toInt64S.f k l1).bind fun t155 => ((spec_FewestOpened.f k t152 t155).bind fun bt158 => ((laws_toYarnS.f k l0).bind fun t163 => ((laws_toInt64S.f k l1).bind fun t166 => ((impl_FewestOpened.f k t163 t166).bind fun bt169 => ((laws_eqInt64S.f k bt169.1 bt158.1).bind fun t174 => (if t174 = true then (if bt169.2.1 = bt158.2.1 then (laws_FnExactFewestOpened.j0 k l0 l1 bt158.1 bt158.2.1 bt158.2.2 t163 t166 bt169.1 bt169.2.1 bt169.2.2 (bt169.2.2 != bt158.2.2)) else (laws_FnExactFewestOpened.j0 k l0 l1 bt158.1 bt158.2.1 bt158.2.2 t163 t166 bt169.1 bt169.2.1 bt169.2.2 true)) else (laws_FnExactFewestOpened.j0 k l0 l1 bt158.1 bt158.2.1 bt158.2.2 t163 t166 bt169.1 bt169.2.1 bt169.2.2 true)))))))) = some r := H
      have A6 := Aside0.mk A60
      clear A60
      replace H := Option.bind_eq_some_iff.mp H
      obtain ⟨t155, A70, H⟩ := H
      replace H : ((spec_FewestOpened.f k t152 t155).bind fun bt158 => ((laws_toYarnS.f k l0).bind fun t163 => ((laws_toInt64S.f k l1).bind fun t166 => ((impl_FewestOpened.f k t163 t166).bind fun bt169 => ((laws_eqInt64S.f k bt169.1 bt158.1).bind fun t174 => (if t174 = true then (if bt169.2.1 = bt158.2.1 then (laws_FnExactFewestOpened.j0 k l0 l1 bt158.1 bt158.2.1 bt158.2.2 t163 t166 bt169.1 bt169.2.1 bt169.2.2 (bt169.2.2 != bt158.2.2)) else (laws_FnExactFewestOpened.j0 k l0 l1 bt158.1 bt158.2.1 bt158.2.2 t163 t166 bt169.1 bt169.2.1 bt169.2.2 true)) else (laws_FnExactFewestOpened.j0 k l0 l1 bt158.1 bt158.2.1 bt158.2.2 t163 t166 bt169.1 bt169.2.1 bt169.2.2 true))))))) = some r := H
      have A7 := Aside0.mk A70
      clear A70
      replace H := Option.bind_eq_some_iff.mp H
      obtain ⟨⟨t158, t159, t160⟩, A80, H⟩ := H
      replace H : ((laws_toYarnS.f k l0).bind fun t163 => ((laws_toInt64S.f k l1).bind fun t166 => ((impl_FewestOpened.f k t163 t166).bind fun bt169 => ((laws_eqInt64S.f k bt169.1 t158).bind fun t174 => (if t174 = true then (if bt169.2.1 = t159 then (laws_FnExactFewestOpened.j0 k l0 l1 t158 t159 t160 t163 t166 bt169.1 bt169.2.1 bt169.2.2 (bt169.2.2 != t160)) else (laws_FnExactFewestOpened.j0 k l0 l1 t158 t159 t160 t163 t166 bt169.1 bt169.2.1 bt169.2.2 true)) else (laws_FnExactFewestOpened.j0 k l0 l1 t158 t159 t160 t163 t166 bt169.1 bt169.2.1 bt169.2.2 true)))))) = some r := H
      have A8 := Aside0.mk A80
      clear A80
      replace H := Option.bind_eq_some_iff.mp H
      obtain ⟨t163, A90, H⟩ := H
      replace H : ((laws_toInt64S.f k l1).bind fun t166 => ((impl_FewestOpened.f k t163 t166).bind fun bt169 => ((laws_eqInt64S.f k bt169.1 t158).bind fun t174 => (if t174 = true then (if bt169.2.1 = t159 then (laws_FnExactFewestOpened.j0 k l0 l1 t158 t159 t160 t163 t166 bt169.1 bt169.2.1 bt169.2.2 (bt169.2.2 != t160)) else (laws_FnExactFewestOpened.j0 k l0 l1 t158 t159 t160 t163 t166 bt169.1 bt169.2.1 bt169.2.2 true)) else (laws_FnExactFewestOpened.j0 k l0 l1 t158 t159 t160 t163 t166 bt169.1 bt169.2.1 bt169.2.2 true))))) = some r := H
      have A9 := Aside0.mk A90
      clear A90
      replace H := Option.bind_eq_some_iff.mp H
      obtain ⟨t166, A100, H⟩ := H
      replace H : ((impl_FewestOpened.f k t163 t166).bind fun bt169 => ((laws_eqInt64S.f k bt169.1 t158).bind fun t174 => (if t174 = true then (if bt169.2.1 = t159 then (laws_FnExactFewestOpened.j0 k l0 l1 t158 t159 t160 t163 t166 bt169.1 bt169.2.1 bt169.2.2 (bt169.2.2 != t160)) else (laws_FnExactFewestOpened.j0 k l0 l1 t158 t159 t160 t163 t166 bt169.1 bt169.2.1 bt169.2.2 true)) else (laws_FnExactFewestOpened.j0 k l0 l1 t158 t159 t160 t163 t166 bt169.1 bt169.2.1 bt169.2.2 true)))) = some r := H
      have A10 := Aside0.mk A100
      clear A100
      replace H := Option.bind_eq_some_iff.mp H
      obtain ⟨⟨t169, t170, t171⟩, A110, H⟩ := H
      replace H : ((laws_eqInt64S.f k t169 t158).bind fun t174 => (if t174 = true then (if t170 = t159 then (laws_FnExactFewestOpened.j0 k l0 l1 t158 t159 t160 t163 t166 t169 t170 t171 (t171 != t160)) else (laws_FnExactFewestOpened.j0 k l0 l1 t158 t159 t160 t163 t166 t169 t170 t171 true)) else (laws_FnExactFewestOpened.j0 k l0 l1 t158 t159 t160 t163 t166 t169 t170 t171 true))) = some r := H
      have A11 := Aside0.mk A110
      clear A110
      have HC12 := Aside0.mk H
      clear H
      go_enter Try.func5, Try.ntmps5
      go_upto_region 11 with (first | ((with_reducible refine gate_callee (f := 21) rfl ?_); refine goesL_ (some 25) rfl rfl Try.func21 (by kernel_rfl) rfl #[.slice A0 l0.length c0, .int .i64 1048576] rfl (by (try simp only [List.map_toArray, List.map_cons, List.map_nil]); first | done | rfl | (simp only [List.length_drop, List.length_take]; rfl)) ?_; (with_reducible refine (laws_szYarnS.calls _ _ l0 1048576 t151 _ ?side1 ?side2 A4.out).mono ?_); (case side1 => repeat (first | exact HR0.out | (with_reducible refine Kd.C_alloc ?_ _) | (with_reducible refine Kd.C_drewN ?_ _) | (with_reducible refine Kd.C_drew ?_))); (case side2 => exact HC0.out); rintro e w' ⟨rfl, ⟨nd, rfl⟩⟩; refine ⟨_, rfl, ?_⟩) | ((with_reducible refine gate_callee (f := 23) rfl ?_); refine goesL_ (some 30) rfl rfl Try.func23 (by kernel_rfl) rfl #[.slice A0 l0.length c0] rfl (by (try simp only [List.map_toArray, List.map_cons, List.map_nil]); first | done | rfl | (simp only [List.length_drop, List.length_take]; rfl)) ?_; (with_reducible refine (laws_toYarnS.calls k _ _ l0 t152 _ ?side1 ?side2 A6.out).mono ?_); (case side1 => repeat (first | exact HR0.out | (with_reducible refine Kd.C_alloc ?_ _) | (with_reducible refine Kd.C_drewN ?_ _) | (with_reducible refine Kd.C_drew ?_))); (case side2 => exact HC0.out); rintro e w13 ⟨v153, rfl, ho0, hb⟩; refine ⟨_, rfl, ?_⟩; have n0_ := Aside0.mk (Kd.R_lower ho0 (below_size (by repeat (first | (with_reducible first | exact HB.out | apply below_alloc | apply pw_below_drewN | apply below_drew1) | exact HB.out)))); have n1_ := Aside0.mk (below_step (by repeat (first | (with_reducible first | exact HB.out | apply below_alloc | apply pw_below_drewN | apply below_drew1) | exact HB.out)) hb); clear HB; have HO154 := n0_; have HB := n1_; clear n0_ n1_; (try clear hb); (try clear hb2); (try clear hk); (try clear hi); (try clear ho0)) | ((with_reducible refine gate_callee (f := 31) rfl ?_); refine goesL_ (some 32) rfl rfl Try.func31 (by kernel_rfl) rfl #[.slice A1 l1.length c1] rfl (by (try simp only [List.map_toArray, List.map_cons, List.map_nil]); first | done | rfl | (simp only [List.length_drop, List.length_take]; rfl)) ?_; (with_reducible refine (laws_toInt64S.calls k _ _ l1 t155 _ ?side1 ?side2 A7.out).mono ?_); (case side1 => repeat (first | exact (Kd.C_below HR1.out HB.out) | (with_reducible refine Kd.C_alloc ?_ _) | (with_reducible refine Kd.C_drewN ?_ _) | (with_reducible refine Kd.C_drew ?_))); (case side2 => exact HC1.out); rintro e w14 ⟨v156, rfl, ho0, hb⟩; refine ⟨_, rfl, ?_⟩; have n0_ := Aside0.mk (Kd.R_below (by (with_reducible repeat (first | apply Kd.R_alloc | apply Kd.R_drewN | apply Kd.R_drew)); exact HO154.out) hb); have n1_ := Aside0.mk (Kd.R_lower ho0 (below_size (by repeat (first | (with_reducible first | exact HB.out | apply below_alloc | apply pw_below_drewN | apply below_drew1) | exact HB.out)))); have n2_ := Aside0.mk (below_step (by repeat (first | (with_reducible first | exact HB.out | apply below_alloc | apply pw_below_drewN | apply below_drew1) | exact HB.out)) hb); clear HO154; clear HB; have HO154 := n0_; have HO157 := n1_; have HB := n2_; clear n0_ n1_ n2_; (try clear hb); (try clear hb2); (try clear hk); (try clear hi); (try clear ho0); obtain ⟨Ao15, co15, eo15⟩ := Kd.R_slice HO154.out; subst eo15; obtain ⟨Ao16, co16, eo16⟩ := Kd.R_slice HO157.out; subst eo16) | ((with_reducible refine gate_callee (f := 30) rfl ?_); refine goesL_ (some 33) rfl rfl Try.func30 (by kernel_rfl) rfl #[.slice Ao15 t152.length co15, .slice Ao16 t155.length co16] rfl (by (try simp only [List.map_toArray, List.map_cons, List.map_nil]); first | done | rfl | (simp only [List.length_drop, List.length_take]; rfl)) ?_; (with_reducible refine (spec_FewestOpened.calls k _ _ t152 _ _ t155 t158 t159 t160 _ ?side1 ?side2 ?side3 ?side4 A8.out).mono ?_); (case side1 => repeat (first | exact (Kd.R_reads' HO154.out).2.2 | (with_reducible refine Kd.C_alloc ?_ _) | (with_reducible refine Kd.C_drewN ?_ _) | (with_reducible refine Kd.C_drew ?_))); (case side2 => exact (Kd.R_reads' HO154.out).2.1); (case side3 => repeat (first | exact (Kd.R_reads' HO157.out).2.2 | (with_reducible refine Kd.C_alloc ?_ _) | (with_reducible refine Kd.C_drewN ?_ _) | (with_reducible refine Kd.C_drew ?_))); (case side4 => exact (Kd.R_reads' HO157.out).2.1); rintro e w17 ⟨v161, rfl, ho0, hb⟩; refine ⟨_, rfl, ?_⟩; have n0_ := Aside0.mk (Kd.R_below (by (with_reducible repeat (first | apply Kd.R_alloc | apply Kd.R_drewN | apply Kd.R_drew)); exact HO154.out) hb); have n1_ := Aside0.mk (Kd.R_elder' (by (with_reducible repeat (first | apply Kd.R_alloc | apply Kd.R_drewN | apply Kd.R_drew)); exact HO157.out) (Kd.R_base ho0) hb); have n2_ := Aside0.mk (Kd.R_lower (Kd.R_new' ho0 (Kd.R_lt (by (with_reducible repeat (first | apply Kd.R_alloc | apply Kd.R_drewN | apply Kd.R_drew)); exact HO157.out))) (below_size (by repeat (first | (with_reducible first | exact HB.out | apply below_alloc | apply pw_below_drewN | apply below_drew1) | exact HB.out)))); have n3_ := Aside0.mk (below_step (by repeat (first | (with_reducible first | exact HB.out | apply below_alloc | apply pw_below_drewN | apply below_drew1) | exact HB.out)) hb); clear HO154; clear HO157; clear HB; have HO154 := n0_; have HO157 := n1_; have HO162 := n2_; have HB := n3_; clear n0_ n1_ n2_ n3_; (try clear hb); (try clear hb2); (try clear hk); (try clear hi); (try clear ho0)) | ((with_reducible refine gate_callee (f := 23) rfl ?_); refine goesL_ (some 38) rfl rfl Try.func23 (by kernel_rfl) rfl #[.slice A0 l0.length c0] rfl (by (try simp only [List.map_toArray, List.map_cons, List.map_nil]); first | done | rfl | (simp only [List.length_drop, List.length_take]; rfl)) ?_; (with_reducible refine (laws_toYarnS.calls k _ _ l0 t163 _ ?side1 ?side2 A9.out).mono ?_); (case side1 => repeat (first | exact (Kd.C_below HR0.out HB.out) | (with_reducible refine Kd.C_alloc ?_ _) | (with_reducible refine Kd.C_drewN ?_ _) | (with_reducible refine Kd.C_drew ?_))); (case side2 => exact HC0.out); rintro e w18 ⟨v164, rfl, ho0, hb⟩; refine ⟨_, rfl, ?_⟩; have n0_ := Aside0.mk (Kd.R_elder' (by (with_reducible repeat (first | apply Kd.R_alloc | apply Kd.R_drewN | apply Kd.R_drew)); exact HO154.out) (Kd.R_base ho0) hb); have n1_ := Aside0.mk (Kd.R_below (by (with_reducible repeat (first | apply Kd.R_alloc | apply Kd.R_drewN | apply Kd.R_drew)); exact HO157.out) hb); have n2_ := Aside0.mk (Kd.R_below (by (with_reducible repeat (first | apply Kd.R_alloc | apply Kd.R_drewN | apply Kd.R_drew)); exact HO162.out) hb); have n3_ := Aside0.mk (Kd.R_lower (Kd.R_new' ho0 (Kd.R_lt (by (with_reducible repeat (first | apply Kd.R_alloc | apply Kd.R_drewN | apply Kd.R_drew)); exact HO154.out))) (below_size (by repeat (first | (with_reducible first | exact HB.out | apply below_alloc | apply pw_below_drewN | apply below_drew1) | exact HB.out)))); have n4_ := Aside0.mk (below_step (by repeat (first | (with_reducible first | exact HB.out | apply below_alloc | apply pw_below_drewN | apply below_drew1) | exact HB.out)) hb); clear HO154; clear HO157; clear HO162; clear HB; have HO154 := n0_; have HO157 := n1_; have HO162 := n2_; have HO165 := n3_; have HB := n4_; clear n0_ n1_ n2_ n3_ n4_; (try clear hb); (try clear hb2); (try clear hk); (try clear hi); (try clear ho0)) | ((with_reducible refine gate_callee (f := 31) rfl ?_); refine goesL_ (some 40) rfl rfl Try.func31 (by kernel_rfl) rfl #[.slice A1 l1.length c1] rfl (by (try simp only [List.map_toArray, List.map_cons, List.map_nil]); first | done | rfl | (simp only [List.length_drop, List.length_take]; rfl)) ?_; (with_reducible refine (laws_toInt64S.calls k _ _ l1 t166 _ ?side1 ?side2 A10.out).mono ?_); (case side1 => repeat (first | exact (Kd.C_below HR1.out HB.out) | (with_reducible refine Kd.C_alloc ?_ _) | (with_reducible refine Kd.C_drewN ?_ _) | (with_reducible refine Kd.C_drew ?_))); (case side2 => exact HC1.out); rintro e w19 ⟨v167, rfl, ho0, hb⟩; refine ⟨_, rfl, ?_⟩; have n0_ := Aside0.mk (Kd.R_below (by (with_reducible repeat (first | apply Kd.R_alloc | apply Kd.R_drewN | apply Kd.R_drew)); exact HO154.out) hb); have n1_ := Aside0.mk (Kd.R_elder' (by (with_reducible repeat (first | apply Kd.R_alloc | apply Kd.R_drewN | apply Kd.R_drew)); exact HO157.out) (Kd.R_base ho0) hb); have n2_ := Aside0.mk (Kd.R_elder' (by (with_reducible repeat (first | apply Kd.R_alloc | apply Kd.R_drewN | apply Kd.R_drew)); exact HO162.out) (Kd.R_base ho0) hb); have n3_ := Aside0.mk (Kd.R_below (by (with_reducible repeat (first | apply Kd.R_alloc | apply Kd.R_drewN | apply Kd.R_drew)); exact HO165.out) hb); have n4_ := Aside0.mk (Kd.R_lower (Kd.R_new' (Kd.R_new' ho0 (Kd.R_lt (by (with_reducible repeat (first | apply Kd.R_alloc | apply Kd.R_drewN | apply Kd.R_drew)); exact HO157.out))) (Kd.R_lt (by (with_reducible repeat (first | apply Kd.R_alloc | apply Kd.R_drewN | apply Kd.R_drew)); exact HO162.out))) (below_size (by repeat (first | (with_reducible first | exact HB.out | apply below_alloc | apply pw_below_drewN | apply below_drew1) | exact HB.out)))); have n5_ := Aside0.mk (below_step (by repeat (first | (with_reducible first | exact HB.out | apply below_alloc | apply pw_below_drewN | apply below_drew1) | exact HB.out)) hb); clear HO154; clear HO157; clear HO162; clear HO165; clear HB; have HO154 := n0_; have HO157 := n1_; have HO162 := n2_; have HO165 := n3_; have HO168 := n4_; have HB := n5_; clear n0_ n1_ n2_ n3_ n4_ n5_; (try clear hb); (try clear hb2); (try clear hk); (try clear hi); (try clear ho0); obtain ⟨Ao20, co20, eo20⟩ := Kd.R_slice HO165.out; subst eo20; obtain ⟨Ao21, co21, eo21⟩ := Kd.R_slice HO168.out; subst eo21) | ((with_reducible refine gate_callee (f := 32) rfl ?_); refine goesL_ (some 44) rfl rfl Try.func32 (by kernel_rfl) rfl #[.slice Ao20 t163.length co20, .slice Ao21 t166.length co21] rfl (by (try simp only [List.map_toArray, List.map_cons, List.map_nil]); first | done | rfl | (simp only [List.length_drop, List.length_take]; rfl)) ?_; (with_reducible refine (impl_FewestOpened.calls k _ _ t163 _ _ t166 t169 t170 t171 _ ?side1 ?side2 ?side3 ?side4 A11.out).mono ?_); (case side1 => repeat (first | exact (Kd.R_reads' HO165.out).2.2 | (with_reducible refine Kd.C_alloc ?_ _) | (with_reducible refine Kd.C_drewN ?_ _) | (with_reducible refine Kd.C_drew ?_))); (case side2 => exact (Kd.R_reads' HO165.out).2.1); (case side3 => repeat (first | exact (Kd.R_reads' HO168.out).2.2 | (with_reducible refine Kd.C_alloc ?_ _) | (with_reducible refine Kd.C_drewN ?_ _) | (with_reducible refine Kd.C_drew ?_))); (case side4 => exact (Kd.R_reads' HO168.out).2.1); rintro e w22 ⟨v172, rfl, ho0, hb⟩; refine ⟨_, rfl, ?_⟩; have n0_ := Aside0.mk (Kd.R_below (by (with_reducible repeat (first | apply Kd.R_alloc | apply Kd.R_drewN | apply Kd.R_drew)); exact HO154.out) hb); have n1_ := Aside0.mk (Kd.R_elder' (by (with_reducible repeat (first | apply Kd.R_alloc | apply Kd.R_drewN | apply Kd.R_drew)); exact HO157.out) (Kd.R_base ho0) hb); have n2_ := Aside0.mk (Kd.R_elder' (by (with_reducible repeat (first | apply Kd.R_alloc | apply Kd.R_drewN | apply Kd.R_drew)); exact HO162.out) (Kd.R_base ho0) hb); have n3_ := Aside0.mk (Kd.R_below (by (with_reducible repeat (first | apply Kd.R_alloc | apply Kd.R_drewN | apply Kd.R_drew)); exact HO165.out) hb); have n4_ := Aside0.mk (Kd.R_elder' (by (with_reducible repeat (first | apply Kd.R_alloc | apply Kd.R_drewN | apply Kd.R_drew)); exact HO168.out) (Kd.R_base ho0) hb); have n5_ := Aside0.mk (Kd.R_lower (Kd.R_new' (Kd.R_new' (Kd.R_new' ho0 (Kd.R_lt (by (with_reducible repeat (first | apply Kd.R_alloc | apply Kd.R_drewN | apply Kd.R_drew)); exact HO157.out))) (Kd.R_lt (by (with_reducible repeat (first | apply Kd.R_alloc | apply Kd.R_drewN | apply Kd.R_drew)); exact HO162.out))) (Kd.R_lt (by (with_reducible repeat (first | apply Kd.R_alloc | apply Kd.R_drewN | apply Kd.R_drew)); exact HO168.out))) (below_size (by repeat (first | (with_reducible first | exact HB.out | apply below_alloc | apply pw_below_drewN | apply below_drew1) | exact HB.out)))); have n6_ := Aside0.mk (below_step (by repeat (first | (with_reducible first | exact HB.out | apply below_alloc | apply pw_below_drewN | apply below_drew1) | exact HB.out)) hb); clear HO154; clear HO157; clear HO162; clear HO165; clear HO168; clear HB; have HO154 := n0_; have HO157 := n1_; have HO162 := n2_; have HO165 := n3_; have HO168 := n4_; have HO173 := n5_; have HB := n6_; clear n0_ n1_ n2_ n3_ n4_ n5_ n6_; (try clear hb); (try clear hb2); (try clear hk); (try clear hi); (try clear ho0)))
      (try simp only [Act.put, List.setIfInBounds_toArray, List.set_cons_zero, List.set_cons_succ])
      go_cut [61] (fun v61 wc => ∃ (kq : Nat) (x61_11 : Bool), v61 = .bool x61_11 ∧ Aside0 (laws_FnExactFewestOpened.j0 kq l0 l1 t158 t159 t160 t163 t166 t169 t170 t171 x61_11 = some r) ∧ Aside0 (kq ≤ k) ∧ Aside0 (Kd.R (Kd.int .i64) 2 wc w.heap.size (fun k_ => some k_ ≠ ((.slice Ao21 t166.length co21) : Value).ownBlock ∧ some k_ ≠ (v172 : Value).ownBlock) v161 t158) ∧ Aside0 (Kd.R k88 88 wc w.heap.size (fun _ => True) (.slice Ao20 t163.length co20) t163) ∧ Aside0 (Kd.R (Kd.int .i64) 2 wc w.heap.size (fun k_ => some k_ ≠ (v161 : Value).ownBlock ∧ some k_ ≠ (v172 : Value).ownBlock) (.slice Ao21 t166.length co21) t166) ∧ Aside0 (Kd.R (Kd.int .i64) 2 wc w.heap.size (fun k_ => some k_ ≠ (v161 : Value).ownBlock ∧ some k_ ≠ ((.slice Ao21 t166.length co21) : Value).ownBlock) v172 t169) ∧ Aside0 (Below w.heap.size w wc))
      case first =>
        as_aux_lemma =>
        have H := HC12.out
        clear HC12
        replace H := Option.bind_eq_some_iff.mp H
        obtain ⟨t174, A230, H⟩ := H
        replace H : (if t174 = true then (if t170 = t159 then (laws_FnExactFewestOpened.j0 k l0 l1 t158 t159 t160 t163 t166 t169 t170 t171 (t171 != t160)) else (laws_FnExactFewestOpened.j0 k l0 l1 t158 t159 t160 t163 t166 t169 t170 t171 true)) else (laws_FnExactFewestOpened.j0 k l0 l1 t158 t159 t160 t163 t166 t169 t170 t171 true)) = some r := H
        have A23 := Aside0.mk A230
        clear A230
        by_cases c24 : t174 = true
        · subst c24
          have H1 : (if t170 = t159 then (laws_FnExactFewestOpened.j0 k l0 l1 t158 t159 t160 t163 t166 t169 t170 t171 (t171 != t160)) else (laws_FnExactFewestOpened.j0 k l0 l1 t158 t159 t160 t163 t166 t169 t170 t171 true)) = some r := by rw [if_pos rfl] at H; exact H
          clear H
          have H := H1
          clear H1
          by_cases c25 : t170 = t159
          · rw [if_pos c25] at H
            have c25b0 : (t170 == t159) = true := beq_iff_eq.mpr c25
            have c25b1 : (t170 != t159) = false := bne_eq_false_iff_eq.mpr c25
            clear c25
            (first | rw [c25b0] | (simp only [i64_w, i32_w]; rw [c25b0]) | skip)
            have H' := Aside0.mk H
            clear H
            obtain ⟨Ao26, co26, eo26⟩ := Kd.R_slice HO173.out
            subst eo26
            obtain ⟨Ao27, co27, eo27⟩ := Kd.R_slice HO162.out
            subst eo27
            go_wp2_with (first | ((with_reducible refine gate_callee (f := 25) rfl ?_); refine goesL_ (some 50) rfl rfl Try.func25 (by kernel_rfl) rfl #[.slice Ao26 t169.length co26, .slice Ao27 t158.length co27] rfl (by (try simp only [List.map_toArray, List.map_cons, List.map_nil]); first | done | rfl | (simp only [List.length_drop, List.length_take]; rfl)) ?_; (with_reducible refine (laws_eqInt64S.calls k _ _ t169 _ _ t158 true _ ?side1 ?side2 ?side3 ?side4 A23.out).mono ?_); (case side1 => repeat (first | exact (Kd.R_reads' HO173.out).2.2 | (with_reducible refine Kd.C_alloc ?_ _) | (with_reducible refine Kd.C_drewN ?_ _) | (with_reducible refine Kd.C_drew ?_))); (case side2 => exact (Kd.R_reads' HO173.out).2.1); (case side3 => repeat (first | exact (Kd.R_reads' HO162.out).2.2 | (with_reducible refine Kd.C_alloc ?_ _) | (with_reducible refine Kd.C_drewN ?_ _) | (with_reducible refine Kd.C_drew ?_))); (case side4 => exact (Kd.R_reads' HO162.out).2.1); rintro e w' ⟨rfl, ⟨nd, rfl⟩⟩; refine ⟨_, rfl, ?_⟩))
            go_meet
            case rel => exact ⟨_, ((t171 != t160)), (by first | rfl | (simp; done) | (simp [*]; done)), H', ⟨by first | omega | exact Nat.le_refl _⟩, ⟨by (with_reducible repeat (first | apply Kd.R_alloc | apply Kd.R_drewN | apply Kd.R_drew)); exact Kd.R_mono HO162.out (fun _ hk => ⟨hk.1.2, hk.2⟩)⟩, ⟨by (with_reducible repeat (first | apply Kd.R_alloc | apply Kd.R_drewN | apply Kd.R_drew)); exact Kd.R_mono HO165.out (fun _ hk => trivial)⟩, ⟨by (with_reducible repeat (first | apply Kd.R_alloc | apply Kd.R_drewN | apply Kd.R_drew)); exact Kd.R_mono HO168.out (fun _ hk => ⟨hk.1.2, hk.2⟩)⟩, ⟨by (with_reducible repeat (first | apply Kd.R_alloc | apply Kd.R_drewN | apply Kd.R_drew)); exact Kd.R_mono HO173.out (fun _ hk => ⟨hk.1.2, hk.2⟩)⟩, ⟨by repeat (first | (with_reducible first | exact HB.out | apply below_alloc | apply pw_below_drewN | apply below_drew1) | exact HB.out)⟩⟩
          · rw [if_neg c25] at H
            have c25b0 : (t170 == t159) = false := beq_eq_false_iff_ne.mpr c25
            have c25b1 : (t170 != t159) = true := bne_iff_ne.mpr c25
            (first | rw [c25b0] | (simp only [i64_w, i32_w]; rw [c25b0]) | skip)
            have H' := Aside0.mk H
            clear H
            obtain ⟨Ao28, co28, eo28⟩ := Kd.R_slice HO173.out
            subst eo28
            obtain ⟨Ao29, co29, eo29⟩ := Kd.R_slice HO162.out
            subst eo29
            go_wp2_with (first | ((with_reducible refine gate_callee (f := 25) rfl ?_); refine goesL_ (some 50) rfl rfl Try.func25 (by kernel_rfl) rfl #[.slice Ao28 t169.length co28, .slice Ao29 t158.length co29] rfl (by (try simp only [List.map_toArray, List.map_cons, List.map_nil]); first | done | rfl | (simp only [List.length_drop, List.length_take]; rfl)) ?_; (with_reducible refine (laws_eqInt64S.calls k _ _ t169 _ _ t158 true _ ?side1 ?side2 ?side3 ?side4 A23.out).mono ?_); (case side1 => repeat (first | exact (Kd.R_reads' HO173.out).2.2 | (with_reducible refine Kd.C_alloc ?_ _) | (with_reducible refine Kd.C_drewN ?_ _) | (with_reducible refine Kd.C_drew ?_))); (case side2 => exact (Kd.R_reads' HO173.out).2.1); (case side3 => repeat (first | exact (Kd.R_reads' HO162.out).2.2 | (with_reducible refine Kd.C_alloc ?_ _) | (with_reducible refine Kd.C_drewN ?_ _) | (with_reducible refine Kd.C_drew ?_))); (case side4 => exact (Kd.R_reads' HO162.out).2.1); rintro e w' ⟨rfl, ⟨nd, rfl⟩⟩; refine ⟨_, rfl, ?_⟩))
            go_meet
            case rel => exact ⟨_, (true), (by first | rfl | (simp; done) | (simp [*]; done)), H', ⟨by first | omega | exact Nat.le_refl _⟩, ⟨by (with_reducible repeat (first | apply Kd.R_alloc | apply Kd.R_drewN | apply Kd.R_drew)); exact Kd.R_mono HO162.out (fun _ hk => ⟨hk.1.2, hk.2⟩)⟩, ⟨by (with_reducible repeat (first | apply Kd.R_alloc | apply Kd.R_drewN | apply Kd.R_drew)); exact Kd.R_mono HO165.out (fun _ hk => trivial)⟩, ⟨by (with_reducible repeat (first | apply Kd.R_alloc | apply Kd.R_drewN | apply Kd.R_drew)); exact Kd.R_mono HO168.out (fun _ hk => ⟨hk.1.2, hk.2⟩)⟩, ⟨by (with_reducible repeat (first | apply Kd.R_alloc | apply Kd.R_drewN | apply Kd.R_drew)); exact Kd.R_mono HO173.out (fun _ hk => ⟨hk.1.2, hk.2⟩)⟩, ⟨by repeat (first | (with_reducible first | exact HB.out | apply below_alloc | apply pw_below_drewN | apply below_drew1) | exact HB.out)⟩⟩
        · replace c24 := Bool.eq_false_iff.mpr c24
          subst c24
          have H1 : (laws_FnExactFewestOpened.j0 k l0 l1 t158 t159 t160 t163 t166 t169 t170 t171 true) = some r := by rw [if_neg (show ¬ (false = true) by decide)] at H; exact H
          clear H
          have H := H1
          clear H1
          have H' := Aside0.mk H
          clear H
          obtain ⟨Ao30, co30, eo30⟩ := Kd.R_slice HO173.out
          subst eo30
          obtain ⟨Ao31, co31, eo31⟩ := Kd.R_slice HO162.out
          subst eo31
          go_wp2_with (first | ((with_reducible refine gate_callee (f := 25) rfl ?_); refine goesL_ (some 50) rfl rfl Try.func25 (by kernel_rfl) rfl #[.slice Ao30 t169.length co30, .slice Ao31 t158.length co31] rfl (by (try simp only [List.map_toArray, List.map_cons, List.map_nil]); first | done | rfl | (simp only [List.length_drop, List.length_take]; rfl)) ?_; (with_reducible refine (laws_eqInt64S.calls k _ _ t169 _ _ t158 false _ ?side1 ?side2 ?side3 ?side4 A23.out).mono ?_); (case side1 => repeat (first | exact (Kd.R_reads' HO173.out).2.2 | (with_reducible refine Kd.C_alloc ?_ _) | (with_reducible refine Kd.C_drewN ?_ _) | (with_reducible refine Kd.C_drew ?_))); (case side2 => exact (Kd.R_reads' HO173.out).2.1); (case side3 => repeat (first | exact (Kd.R_reads' HO162.out).2.2 | (with_reducible refine Kd.C_alloc ?_ _) | (with_reducible refine Kd.C_drewN ?_ _) | (with_reducible refine Kd.C_drew ?_))); (case side4 => exact (Kd.R_reads' HO162.out).2.1); rintro e w' ⟨rfl, ⟨nd, rfl⟩⟩; refine ⟨_, rfl, ?_⟩))
          go_meet
          case rel => exact ⟨_, (true), (by first | rfl | (simp; done) | (simp [*]; done)), H', ⟨by first | omega | exact Nat.le_refl _⟩, ⟨by (with_reducible repeat (first | apply Kd.R_alloc | apply Kd.R_drewN | apply Kd.R_drew)); exact Kd.R_mono HO162.out (fun _ hk => ⟨hk.1.2, hk.2⟩)⟩, ⟨by (with_reducible repeat (first | apply Kd.R_alloc | apply Kd.R_drewN | apply Kd.R_drew)); exact Kd.R_mono HO165.out (fun _ hk => trivial)⟩, ⟨by (with_reducible repeat (first | apply Kd.R_alloc | apply Kd.R_drewN | apply Kd.R_drew)); exact Kd.R_mono HO168.out (fun _ hk => ⟨hk.1.2, hk.2⟩)⟩, ⟨by (with_reducible repeat (first | apply Kd.R_alloc | apply Kd.R_drewN | apply Kd.R_drew)); exact Kd.R_mono HO173.out (fun _ hk => ⟨hk.1.2, hk.2⟩)⟩, ⟨by repeat (first | (with_reducible first | exact HB.out | apply below_alloc | apply pw_below_drewN | apply below_drew1) | exact HB.out)⟩⟩
      case rest =>
        as_aux_lemma =>
        clear HC12
        try clear c1
        try clear c2
        try clear p2
        try clear c3
        try clear c3b0
        try clear c3b1
        try clear c5
        try clear c5b0
        try clear c21
        try clear c23
        try clear c24
        try clear c25
        try clear c25b0
        try clear c25b1
        try clear c30
        try clear c31
        obtain ⟨kq, x61_11, rfl, HA, HJ11, HO_6, HO_9, HO_10, HO_11, HB⟩ := hcut
        cases kq with
        | zero => exact absurd HA.out (by simp [laws_FnExactFewestOpened.j0])
        | succ kj11 =>
          have H := HA.out
          clear HA
          simp only [laws_FnExactFewestOpened.j0] at H
          by_cases c32 : x61_11 = true
          · subst c32
            have H1 : (none) = some r := by rw [if_pos rfl] at H; exact H
            clear H
            have H := H1
            clear H1
            exact absurd H (by simp)
          · replace c32 := Bool.eq_false_iff.mpr c32
            subst c32
            have H1 : ((laws_toYarnS.f kj11 l0).bind fun t175 => ((laws_eqYarnS.f kj11 t163 t175).bind fun t178 => (if t178 = true then ((laws_toInt64S.f kj11 l1).bind fun t179 => ((laws_eqInt64S.f kj11 t166 t179).bind fun t182 => (if t182 = true then ((laws_markYarnS.f kj11 t163 1).bind fun bt183 => ((laws_markInt64S.f kj11 t166 bt183.1).bind fun bt185 => (if bt185.1 < 0 then (laws_FnExactFewestOpened.j1 kj11 l0 l1 t158 t159 t160 t169 true) else ((laws_eqInt64S.f kj11 t169 t158).bind fun t187 => (if t187 = true then (if t170 = t159 then (laws_FnExactFewestOpened.j1 kj11 l0 l1 t158 t159 t160 t169 (t171 != t160)) else (laws_FnExactFewestOpened.j1 kj11 l0 l1 t158 t159 t160 t169 true)) else (laws_FnExactFewestOpened.j1 kj11 l0 l1 t158 t159 t160 t169 true)))))) else (none)))) else (none)))) = some r := by rw [if_neg (show ¬ (false = true) by decide)] at H; exact H
            clear H
            have H := H1
            clear H1
            replace H := Option.bind_eq_some_iff.mp H
            obtain ⟨t175, A330, H⟩ := H
            replace H : ((laws_eqYarnS.f kj11 t163 t175).bind fun t178 => (if t178 = true then ((laws_toInt64S.f kj11 l1).bind fun t179 => ((laws_eqInt64S.f kj11 t166 t179).bind fun t182 => (if t182 = true then ((laws_markYarnS.f kj11 t163 1).bind fun bt183 => ((laws_markInt64S.f kj11 t166 bt183.1).bind fun bt185 => (if bt185.1 < 0 then (laws_FnExactFewestOpened.j1 kj11 l0 l1 t158 t159 t160 t169 true) else ((laws_eqInt64S.f kj11 t169 t158).bind fun t187 => (if t187 = true then (if t170 = t159 then (laws_FnExactFewestOpened.j1 kj11 l0 l1 t158 t159 t160 t169 (t171 != t160)) else (laws_FnExactFewestOpened.j1 kj11 l0 l1 t158 t159 t160 t169 true)) else (laws_FnExactFewestOpened.j1 kj11 l0 l1 t158 t159 t160 t169 true)))))) else (none)))) else (none))) = some r := H
            have A33 := Aside0.mk A330
            clear A330
            replace H := Option.bind_eq_some_iff.mp H
            obtain ⟨t178, A340, H⟩ := H
            replace H : (if t178 = true then ((laws_toInt64S.f kj11 l1).bind fun t179 => ((laws_eqInt64S.f kj11 t166 t179).bind fun t182 => (if t182 = true then ((laws_markYarnS.f kj11 t163 1).bind fun bt183 => ((laws_markInt64S.f kj11 t166 bt183.1).bind fun bt185 => (if bt185.1 < 0 then (laws_FnExactFewestOpened.j1 kj11 l0 l1 t158 t159 t160 t169 true) else ((laws_eqInt64S.f kj11 t169 t158).bind fun t187 => (if t187 = true then (if t170 = t159 then (laws_FnExactFewestOpened.j1 kj11 l0 l1 t158 t159 t160 t169 (t171 != t160)) else (laws_FnExactFewestOpened.j1 kj11 l0 l1 t158 t159 t160 t169 true)) else (laws_FnExactFewestOpened.j1 kj11 l0 l1 t158 t159 t160 t169 true)))))) else (none)))) else (none)) = some r := H
            have A34 := Aside0.mk A340
            clear A340
            by_cases c35 : t178 = true
            · subst c35
              have H1 : ((laws_toInt64S.f kj11 l1).bind fun t179 => ((laws_eqInt64S.f kj11 t166 t179).bind fun t182 => (if t182 = true then ((laws_markYarnS.f kj11 t163 1).bind fun bt183 => ((laws_markInt64S.f kj11 t166 bt183.1).bind fun bt185 => (if bt185.1 < 0 then (laws_FnExactFewestOpened.j1 kj11 l0 l1 t158 t159 t160 t169 true) else ((laws_eqInt64S.f kj11 t169 t158).bind fun t187 => (if t187 = true then (if t170 = t159 then (laws_FnExactFewestOpened.j1 kj11 l0 l1 t158 t159 t160 t169 (t171 != t160)) else (laws_FnExactFewestOpened.j1 kj11 l0 l1 t158 t159 t160 t169 true)) else (laws_FnExactFewestOpened.j1 kj11 l0 l1 t158 t159 t160 t169 true)))))) else (none)))) = some r := by rw [if_pos rfl] at H; exact H
              clear H
              have H := H1
              clear H1
              replace H := Option.bind_eq_some_iff.mp H
              obtain ⟨t179, A360, H⟩ := H
              replace H : ((laws_eqInt64S.f kj11 t166 t179).bind fun t182 => (if t182 = true then ((laws_markYarnS.f kj11 t163 1).bind fun bt183 => ((laws_markInt64S.f kj11 t166 bt183.1).bind fun bt185 => (if bt185.1 < 0 then (laws_FnExactFewestOpened.j1 kj11 l0 l1 t158 t159 t160 t169 true) else ((laws_eqInt64S.f kj11 t169 t158).bind fun t187 => (if t187 = true then (if t170 = t159 then (laws_FnExactFewestOpened.j1 kj11 l0 l1 t158 t159 t160 t169 (t171 != t160)) else (laws_FnExactFewestOpened.j1 kj11 l0 l1 t158 t159 t160 t169 true)) else (laws_FnExactFewestOpened.j1 kj11 l0 l1 t158 t159 t160 t169 true)))))) else (none))) = some r := H
              have A36 := Aside0.mk A360
              clear A360
              replace H := Option.bind_eq_some_iff.mp H
              obtain ⟨t182, A370, H⟩ := H
              replace H : (if t182 = true then ((laws_markYarnS.f kj11 t163 1).bind fun bt183 => ((laws_markInt64S.f kj11 t166 bt183.1).bind fun bt185 => (if bt185.1 < 0 then (laws_FnExactFewestOpened.j1 kj11 l0 l1 t158 t159 t160 t169 true) else ((laws_eqInt64S.f kj11 t169 t158).bind fun t187 => (if t187 = true then (if t170 = t159 then (laws_FnExactFewestOpened.j1 kj11 l0 l1 t158 t159 t160 t169 (t171 != t160)) else (laws_FnExactFewestOpened.j1 kj11 l0 l1 t158 t159 t160 t169 true)) else (laws_FnExactFewestOpened.j1 kj11 l0 l1 t158 t159 t160 t169 true)))))) else (none)) = some r := H
              have A37 := Aside0.mk A370
              clear A370
              by_cases c38 : t182 = true
              · subst c38
                have H1 : ((laws_markYarnS.f kj11 t163 1).bind fun bt183 => ((laws_markInt64S.f kj11 t166 bt183.1).bind fun bt185 => (if bt185.1 < 0 then (laws_FnExactFewestOpened.j1 kj11 l0 l1 t158 t159 t160 t169 true) else ((laws_eqInt64S.f kj11 t169 t158).bind fun t187 => (if t187 = true then (if t170 = t159 then (laws_FnExactFewestOpened.j1 kj11 l0 l1 t158 t159 t160 t169 (t171 != t160)) else (laws_FnExactFewestOpened.j1 kj11 l0 l1 t158 t159 t160 t169 true)) else (laws_FnExactFewestOpened.j1 kj11 l0 l1 t158 t159 t160 t169 true)))))) = some r := by rw [if_pos rfl] at H; exact H
                clear H
                have H := H1
                clear H1
                replace H := Option.bind_eq_some_iff.mp H
                obtain ⟨⟨t183, t184⟩, A390, H⟩ := H
                replace H : ((laws_markInt64S.f kj11 t166 t183).bind fun bt185 => (if bt185.1 < 0 then (laws_FnExactFewestOpened.j1 kj11 l0 l1 t158 t159 t160 t169 true) else ((laws_eqInt64S.f kj11 t169 t158).bind fun t187 => (if t187 = true then (if t170 = t159 then (laws_FnExactFewestOpened.j1 kj11 l0 l1 t158 t159 t160 t169 (t171 != t160)) else (laws_FnExactFewestOpened.j1 kj11 l0 l1 t158 t159 t160 t169 true)) else (laws_FnExactFewestOpened.j1 kj11 l0 l1 t158 t159 t160 t169 true))))) = some r := H
                have A39 := Aside0.mk A390
                clear A390
                replace H := Option.bind_eq_some_iff.mp H
                obtain ⟨⟨t185, t186⟩, A400, H⟩ := H
                replace H : (if t185 < 0 then (laws_FnExactFewestOpened.j1 kj11 l0 l1 t158 t159 t160 t169 true) else ((laws_eqInt64S.f kj11 t169 t158).bind fun t187 => (if t187 = true then (if t170 = t159 then (laws_FnExactFewestOpened.j1 kj11 l0 l1 t158 t159 t160 t169 (t171 != t160)) else (laws_FnExactFewestOpened.j1 kj11 l0 l1 t158 t159 t160 t169 true)) else (laws_FnExactFewestOpened.j1 kj11 l0 l1 t158 t159 t160 t169 true)))) = some r := H
                have A40 := Aside0.mk A400
                clear A400
                have HC41 := Aside0.mk H
                clear H
                go_upto_region 20 with (first | ((with_reducible refine gate_callee (f := 23) rfl ?_); refine goesL_ (some 64) rfl rfl Try.func23 (by kernel_rfl) rfl #[.slice A0 l0.length c0] rfl (by (try simp only [List.map_toArray, List.map_cons, List.map_nil]); first | done | rfl | (simp only [List.length_drop, List.length_take]; rfl)) ?_; (with_reducible refine (laws_toYarnS.calls kj11 _ _ l0 t175 _ ?side1 ?side2 A33.out).mono ?_); (case side1 => repeat (first | exact (Kd.C_below HR0.out HB.out) | (with_reducible refine Kd.C_alloc ?_ _) | (with_reducible refine Kd.C_drewN ?_ _) | (with_reducible refine Kd.C_drew ?_))); (case side2 => exact HC0.out); rintro e w42 ⟨v176, rfl, ho0, hb⟩; refine ⟨_, rfl, ?_⟩; have n0_ := Aside0.mk (Kd.R_below (by (with_reducible repeat (first | apply Kd.R_alloc | apply Kd.R_drewN | apply Kd.R_drew)); exact HO_6.out) hb); have n1_ := Aside0.mk (Kd.R_elder' (by (with_reducible repeat (first | apply Kd.R_alloc | apply Kd.R_drewN | apply Kd.R_drew)); exact HO_9.out) (Kd.R_base ho0) hb); have n2_ := Aside0.mk (Kd.R_below (by (with_reducible repeat (first | apply Kd.R_alloc | apply Kd.R_drewN | apply Kd.R_drew)); exact HO_10.out) hb); have n3_ := Aside0.mk (Kd.R_below (by (with_reducible repeat (first | apply Kd.R_alloc | apply Kd.R_drewN | apply Kd.R_drew)); exact HO_11.out) hb); have n4_ := Aside0.mk (Kd.R_lower (Kd.R_new' ho0 (Kd.R_lt (by (with_reducible repeat (first | apply Kd.R_alloc | apply Kd.R_drewN | apply Kd.R_drew)); exact HO_9.out))) (below_size (by repeat (first | (with_reducible first | exact HB.out | apply below_alloc | apply pw_below_drewN | apply below_drew1) | exact HB.out)))); have n5_ := Aside0.mk (below_step (by repeat (first | (with_reducible first | exact HB.out | apply below_alloc | apply pw_below_drewN | apply below_drew1) | exact HB.out)) hb); clear HO_6; clear HO_9; clear HO_10; clear HO_11; clear HB; have HO_6 := n0_; have HO_9 := n1_; have HO_10 := n2_; have HO_11 := n3_; have HO177 := n4_; have HB := n5_; clear n0_ n1_ n2_ n3_ n4_ n5_; (try clear hb); (try clear hb2); (try clear hk); (try clear hi); (try clear ho0); obtain ⟨Ao43, co43, eo43⟩ := Kd.R_slice HO177.out; subst eo43) | ((with_reducible refine gate_callee (f := 26) rfl ?_); refine goesL_ (some 65) rfl rfl Try.func26 (by kernel_rfl) rfl #[.slice Ao20 t163.length co20, .slice Ao43 t175.length co43] rfl (by (try simp only [List.map_toArray, List.map_cons, List.map_nil]); first | done | rfl | (simp only [List.length_drop, List.length_take]; rfl)) ?_; (with_reducible refine (laws_eqYarnS.calls kj11 _ _ t163 _ _ t175 true _ ?side1 ?side2 ?side3 ?side4 A34.out).mono ?_); (case side1 => repeat (first | exact (Kd.R_reads' HO_9.out).2.2 | (with_reducible refine Kd.C_alloc ?_ _) | (with_reducible refine Kd.C_drewN ?_ _) | (with_reducible refine Kd.C_drew ?_))); (case side2 => exact (Kd.R_reads' HO_9.out).2.1); (case side3 => repeat (first | exact (Kd.R_reads' HO177.out).2.2 | (with_reducible refine Kd.C_alloc ?_ _) | (with_reducible refine Kd.C_drewN ?_ _) | (with_reducible refine Kd.C_drew ?_))); (case side4 => exact (Kd.R_reads' HO177.out).2.1); rintro e w44 ⟨rfl, hb⟩; refine ⟨_, rfl, ?_⟩; have n0_ := Aside0.mk (Kd.R_below (by (with_reducible repeat (first | apply Kd.R_alloc | apply Kd.R_drewN | apply Kd.R_drew)); exact HO_6.out) hb); have n1_ := Aside0.mk (Kd.R_below (by (with_reducible repeat (first | apply Kd.R_alloc | apply Kd.R_drewN | apply Kd.R_drew)); exact HO_9.out) hb); have n2_ := Aside0.mk (Kd.R_below (by (with_reducible repeat (first | apply Kd.R_alloc | apply Kd.R_drewN | apply Kd.R_drew)); exact HO_10.out) hb); have n3_ := Aside0.mk (Kd.R_below (by (with_reducible repeat (first | apply Kd.R_alloc | apply Kd.R_drewN | apply Kd.R_drew)); exact HO_11.out) hb); have n4_ := Aside0.mk (Kd.R_below (by (with_reducible repeat (first | apply Kd.R_alloc | apply Kd.R_drewN | apply Kd.R_drew)); exact HO177.out) hb); have n5_ := Aside0.mk (below_step (by repeat (first | (with_reducible first | exact HB.out | apply below_alloc | apply pw_below_drewN | apply below_drew1) | exact HB.out)) hb); clear HO_6; clear HO_9; clear HO_10; clear HO_11; clear HO177; clear HB; have HO_6 := n0_; have HO_9 := n1_; have HO_10 := n2_; have HO_11 := n3_; have HO177 := n4_; have HB := n5_; clear n0_ n1_ n2_ n3_ n4_ n5_; (try clear hb); (try clear hb2); (try clear hk); (try clear hi)) | ((with_reducible refine gate_callee (f := 31) rfl ?_); refine goesL_ (some 69) rfl rfl Try.func31 (by kernel_rfl) rfl #[.slice A1 l1.length c1] rfl (by (try simp only [List.map_toArray, List.map_cons, List.map_nil]); first | done | rfl | (simp only [List.length_drop, List.length_take]; rfl)) ?_; (with_reducible refine (laws_toInt64S.calls kj11 _ _ l1 t179 _ ?side1 ?side2 A36.out).mono ?_); (case side1 => repeat (first | exact (Kd.C_below HR1.out HB.out) | (with_reducible refine Kd.C_alloc ?_ _) | (with_reducible refine Kd.C_drewN ?_ _) | (with_reducible refine Kd.C_drew ?_))); (case side2 => exact HC1.out); rintro e w45 ⟨v180, rfl, ho0, hb⟩; refine ⟨_, rfl, ?_⟩; have n0_ := Aside0.mk (Kd.R_elder' (by (with_reducible repeat (first | apply Kd.R_alloc | apply Kd.R_drewN | apply Kd.R_drew)); exact HO_6.out) (Kd.R_base ho0) hb); have n1_ := Aside0.mk (Kd.R_below (by (with_reducible repeat (first | apply Kd.R_alloc | apply Kd.R_drewN | apply Kd.R_drew)); exact HO_9.out) hb); have n2_ := Aside0.mk (Kd.R_elder' (by (with_reducible repeat (first | apply Kd.R_alloc | apply Kd.R_drewN | apply Kd.R_drew)); exact HO_10.out) (Kd.R_base ho0) hb); have n3_ := Aside0.mk (Kd.R_elder' (by (with_reducible repeat (first | apply Kd.R_alloc | apply Kd.R_drewN | apply Kd.R_drew)); exact HO_11.out) (Kd.R_base ho0) hb); have n4_ := Aside0.mk (Kd.R_below (by (with_reducible repeat (first | apply Kd.R_alloc | apply Kd.R_drewN | apply Kd.R_drew)); exact HO177.out) hb); have n5_ := Aside0.mk (Kd.R_lower (Kd.R_new' (Kd.R_new' (Kd.R_new' ho0 (Kd.R_lt (by (with_reducible repeat (first | apply Kd.R_alloc | apply Kd.R_drewN | apply Kd.R_drew)); exact HO_6.out))) (Kd.R_lt (by (with_reducible repeat (first | apply Kd.R_alloc | apply Kd.R_drewN | apply Kd.R_drew)); exact HO_10.out))) (Kd.R_lt (by (with_reducible repeat (first | apply Kd.R_alloc | apply Kd.R_drewN | apply Kd.R_drew)); exact HO_11.out))) (below_size (by repeat (first | (with_reducible first | exact HB.out | apply below_alloc | apply pw_below_drewN | apply below_drew1) | exact HB.out)))); have n6_ := Aside0.mk (below_step (by repeat (first | (with_reducible first | exact HB.out | apply below_alloc | apply pw_below_drewN | apply below_drew1) | exact HB.out)) hb); clear HO_6; clear HO_9; clear HO_10; clear HO_11; clear HO177; clear HB; have HO_6 := n0_; have HO_9 := n1_; have HO_10 := n2_; have HO_11 := n3_; have HO177 := n4_; have HO181 := n5_; have HB := n6_; clear n0_ n1_ n2_ n3_ n4_ n5_ n6_; (try clear hb); (try clear hb2); (try clear hk); (try clear hi); (try clear ho0); obtain ⟨Ao46, co46, eo46⟩ := Kd.R_slice HO181.out; subst eo46) | ((with_reducible refine gate_callee (f := 25) rfl ?_); refine goesL_ (some 70) rfl rfl Try.func25 (by kernel_rfl) rfl #[.slice Ao21 t166.length co21, .slice Ao46 t179.length co46] rfl (by (try simp only [List.map_toArray, List.map_cons, List.map_nil]); first | done | rfl | (simp only [List.length_drop, List.length_take]; rfl)) ?_; (with_reducible refine (laws_eqInt64S.calls kj11 _ _ t166 _ _ t179 true _ ?side1 ?side2 ?side3 ?side4 A37.out).mono ?_); (case side1 => repeat (first | exact (Kd.R_reads' HO_10.out).2.2 | (with_reducible refine Kd.C_alloc ?_ _) | (with_reducible refine Kd.C_drewN ?_ _) | (with_reducible refine Kd.C_drew ?_))); (case side2 => exact (Kd.R_reads' HO_10.out).2.1); (case side3 => repeat (first | exact (Kd.R_reads' HO181.out).2.2 | (with_reducible refine Kd.C_alloc ?_ _) | (with_reducible refine Kd.C_drewN ?_ _) | (with_reducible refine Kd.C_drew ?_))); (case side4 => exact (Kd.R_reads' HO181.out).2.1); rintro e w' ⟨rfl, ⟨nd, rfl⟩⟩; refine ⟨_, rfl, ?_⟩) | ((with_reducible refine gate_callee (f := 27) rfl ?_); refine goesL_ (some 74) rfl rfl Try.func27 (by kernel_rfl) rfl #[.slice Ao20 t163.length co20, .int .i64 1] rfl (by (try simp only [List.map_toArray, List.map_cons, List.map_nil]); first | done | rfl | (simp only [List.length_drop, List.length_take]; rfl)) ?_; (with_reducible refine (laws_markYarnS.calls kj11 (fun k_ => some k_ = (.slice Ao20 t163.length co20 : Value).ownBlock) (.slice Ao20 t163.length co20) t163 1 t183 t184 w _ ?side1 ?side2 A39.out).mono ?_); (case side1 => repeat (first | (with_reducible first | exact HB.out | apply below_alloc | apply pw_below_drewN | apply below_drew1) | exact HB.out)); (case side2 => exact Kd.R_tight rfl HO_9.out); rintro e w47 ⟨rfl, hy0, hb, hkp⟩; refine ⟨_, rfl, ?_⟩; have n0_ := Aside0.mk (Kd.R_mono (ok' := fun k_ => some k_ ≠ (.slice Ao21 t166.length co21 : Value).ownBlock ∧ some k_ ≠ (v172 : Value).ownBlock ∧ some k_ ≠ (.slice Ao46 t179.length co46 : Value).ownBlock) (Kd.R_keptB ((Kd.R_apart' HO_6.out (Kd.R_typed HO_9.out) (by decide))) hkp (fun k_ hk_ hs_ => (hk_.2) hs_)) (fun k_ hk_ => ⟨hk_.1.1.1.1, hk_.1.1.1.2, hk_.1.1.2⟩)); have n1_ := Aside0.mk (Kd.R_reok rfl hy0 (fun k_ e_ => HO_9.out.1 k_ e_)); have n2_ := Aside0.mk (Kd.R_mono (ok' := fun k_ => some k_ ≠ (v161 : Value).ownBlock ∧ some k_ ≠ (v172 : Value).ownBlock ∧ some k_ ≠ (.slice Ao46 t179.length co46 : Value).ownBlock) (Kd.R_keptB ((Kd.R_apart' HO_10.out (Kd.R_typed HO_9.out) (by decide))) hkp (fun k_ hk_ hs_ => (hk_.2) hs_)) (fun k_ hk_ => ⟨hk_.1.1.1.1, hk_.1.1.1.2, hk_.1.1.2⟩)); have n3_ := Aside0.mk (Kd.R_mono (ok' := fun k_ => some k_ ≠ (v161 : Value).ownBlock ∧ some k_ ≠ (.slice Ao21 t166.length co21 : Value).ownBlock ∧ some k_ ≠ (.slice Ao46 t179.length co46 : Value).ownBlock) (Kd.R_keptB ((Kd.R_apart' HO_11.out (Kd.R_typed HO_9.out) (by decide))) hkp (fun k_ hk_ hs_ => (hk_.2) hs_)) (fun k_ hk_ => ⟨hk_.1.1.1.1, hk_.1.1.1.2, hk_.1.1.2⟩)); have n4_ := Aside0.mk (Kd.R_mono (ok' := fun k_ => some k_ ≠ (.slice Ao20 t163.length co20 : Value).ownBlock) (Kd.R_keptB (HO177.out) hkp (fun k_ hk_ hs_ => (hk_.2) hs_)) (fun k_ hk_ => hk_.1.2)); have n5_ := Aside0.mk (Kd.R_mono (ok' := fun k_ => some k_ ≠ (v161 : Value).ownBlock ∧ some k_ ≠ (.slice Ao21 t166.length co21 : Value).ownBlock ∧ some k_ ≠ (v172 : Value).ownBlock) (Kd.R_keptB ((Kd.R_apart' HO181.out (Kd.R_typed HO_9.out) (by decide))) hkp (fun k_ hk_ hs_ => (hk_.2) hs_)) (fun k_ hk_ => ⟨hk_.1.1.1.1.2, hk_.1.1.1.2, hk_.1.1.2⟩)); have n6_ := Aside0.mk (hb); clear HO_6; clear HO_9; clear HO_10; clear HO_11; clear HO177; clear HO181; clear HB; have HO_6 := n0_; have HO_9 := n1_; have HO_10 := n2_; have HO_11 := n3_; have HO177 := n4_; have HO181 := n5_; have HB := n6_; clear n0_ n1_ n2_ n3_ n4_ n5_ n6_; (try clear hb); (try clear hkp); (try clear hy0)) | ((with_reducible refine gate_callee (f := 28) rfl ?_); refine goesL_ (some 77) rfl rfl Try.func28 (by kernel_rfl) rfl #[.slice Ao21 t166.length co21, .int .i64 t183] rfl (by (try simp only [List.map_toArray, List.map_cons, List.map_nil]); first | done | rfl | (simp only [List.length_drop, List.length_take]; rfl)) ?_; (with_reducible refine (laws_markInt64S.calls kj11 (fun k_ => some k_ = (.slice Ao21 t166.length co21 : Value).ownBlock) (.slice Ao21 t166.length co21) t166 t183 t185 t186 w _ ?side1 ?side2 A40.out).mono ?_); (case side1 => repeat (first | (with_reducible first | exact HB.out | apply below_alloc | apply pw_below_drewN | apply below_drew1) | exact HB.out)); (case side2 => exact Kd.R_tight rfl HO_10.out); rintro e w48 ⟨rfl, hy0, hb, hkp⟩; refine ⟨_, rfl, ?_⟩; have n0_ := Aside0.mk (Kd.R_mono (ok' := fun k_ => some k_ ≠ (.slice Ao21 t166.length co21 : Value).ownBlock ∧ some k_ ≠ (v172 : Value).ownBlock ∧ some k_ ≠ (.slice Ao46 t179.length co46 : Value).ownBlock) (Kd.R_keptB (HO_6.out) hkp (fun k_ hk_ hs_ => (hk_.1) hs_)) (fun k_ hk_ => ⟨hk_.1.1, hk_.1.2.1, hk_.1.2.2⟩)); have n1_ := Aside0.mk (Kd.R_mono (ok' := fun k_ => some k_ ≠ (.slice Ao43 t175.length co43 : Value).ownBlock) (Kd.R_keptB ((Kd.R_apart' HO_9.out (Kd.R_typed HO_10.out) (by decide))) hkp (fun k_ hk_ hs_ => (hk_.2) hs_)) (fun k_ hk_ => hk_.1.1.2)); have n2_ := Aside0.mk (Kd.R_reok rfl hy0 (fun k_ e_ => HO_10.out.1 k_ e_)); have n3_ := Aside0.mk (Kd.R_mono (ok' := fun k_ => some k_ ≠ (v161 : Value).ownBlock ∧ some k_ ≠ (.slice Ao21 t166.length co21 : Value).ownBlock ∧ some k_ ≠ (.slice Ao46 t179.length co46 : Value).ownBlock) (Kd.R_keptB (HO_11.out) hkp (fun k_ hk_ hs_ => (hk_.2.1) hs_)) (fun k_ hk_ => ⟨hk_.1.1, hk_.1.2.1, hk_.1.2.2⟩)); have n4_ := Aside0.mk (Kd.R_mono (ok' := fun k_ => some k_ ≠ (.slice Ao20 t163.length co20 : Value).ownBlock) (Kd.R_keptB ((Kd.R_apart' HO177.out (Kd.R_typed HO_10.out) (by decide))) hkp (fun k_ hk_ hs_ => (hk_.2) hs_)) (fun k_ hk_ => hk_.1.1)); have n5_ := Aside0.mk (Kd.R_mono (ok' := fun k_ => some k_ ≠ (v161 : Value).ownBlock ∧ some k_ ≠ (.slice Ao21 t166.length co21 : Value).ownBlock ∧ some k_ ≠ (v172 : Value).ownBlock) (Kd.R_keptB (HO181.out) hkp (fun k_ hk_ hs_ => (hk_.2.1) hs_)) (fun k_ hk_ => ⟨hk_.1.1, hk_.1.2.1, hk_.1.2.2⟩)); have n6_ := Aside0.mk (hb); clear HO_6; clear HO_9; clear HO_10; clear HO_11; clear HO177; clear HO181; clear HB; have HO_6 := n0_; have HO_9 := n1_; have HO_10 := n2_; have HO_11 := n3_; have HO177 := n4_; have HO181 := n5_; have HB := n6_; clear n0_ n1_ n2_ n3_ n4_ n5_ n6_; (try clear hb); (try clear hkp); (try clear hy0)))
                (try simp only [Act.put, List.setIfInBounds_toArray, List.set_cons_zero, List.set_cons_succ])
                go_cut [95] (fun v95 wc => ∃ (kq : Nat) (x95_40 : Bool), v95 = .bool x95_40 ∧ Aside0 (laws_FnExactFewestOpened.j1 kq l0 l1 t158 t159 t160 t169 x95_40 = some r) ∧ Aside0 (kq ≤ kj11) ∧ Aside0 (Kd.R (Kd.int .i64) 2 wc w.heap.size (fun k_ => some k_ ≠ (v172 : Value).ownBlock) v161 t158) ∧ Aside0 (Kd.R (Kd.int .i64) 2 wc w.heap.size (fun k_ => some k_ ≠ (v161 : Value).ownBlock) v172 t169) ∧ Aside0 (Below w.heap.size w wc))
                case first =>
                  as_aux_lemma =>
                  have H := HC41.out
                  clear HC41
                  by_cases c49 : t185 < 0
                  · rw [if_pos c49] at H
                    have c49b0 : decide (t185 < 0) = true := decide_eq_true c49
                    clear c49
                    (first | rw [c49b0] | (simp only [i64_w, i32_w]; rw [c49b0]) | skip)
                    have H' := Aside0.mk H
                    clear H
                    go_wp2
                    go_meet
                    case rel => exact ⟨_, (true), (by first | rfl | (simp; done) | (simp [*]; done)), H', ⟨by have := HJ11.out; first | omega | exact Nat.le_refl _⟩, ⟨by (with_reducible repeat (first | apply Kd.R_alloc | apply Kd.R_drewN | apply Kd.R_drew)); exact Kd.R_mono HO_6.out (fun _ hk => hk.2.1)⟩, ⟨by (with_reducible repeat (first | apply Kd.R_alloc | apply Kd.R_drewN | apply Kd.R_drew)); exact Kd.R_mono HO_11.out (fun _ hk => hk.1)⟩, ⟨by repeat (first | (with_reducible first | exact HB.out | apply below_alloc | apply pw_below_drewN | apply below_drew1) | exact HB.out)⟩⟩
                  · rw [if_neg c49] at H
                    have c49b0 : decide (t185 < 0) = false := decide_eq_false c49
                    clear c49
                    (first | rw [c49b0] | (simp only [i64_w, i32_w]; rw [c49b0]) | skip)
                    replace H := Option.bind_eq_some_iff.mp H
                    obtain ⟨t187, A500, H⟩ := H
                    replace H : (if t187 = true then (if t170 = t159 then (laws_FnExactFewestOpened.j1 kj11 l0 l1 t158 t159 t160 t169 (t171 != t160)) else (laws_FnExactFewestOpened.j1 kj11 l0 l1 t158 t159 t160 t169 true)) else (laws_FnExactFewestOpened.j1 kj11 l0 l1 t158 t159 t160 t169 true)) = some r := H
                    have A50 := Aside0.mk A500
                    clear A500
                    by_cases c51 : t187 = true
                    · subst c51
                      have H1 : (if t170 = t159 then (laws_FnExactFewestOpened.j1 kj11 l0 l1 t158 t159 t160 t169 (t171 != t160)) else (laws_FnExactFewestOpened.j1 kj11 l0 l1 t158 t159 t160 t169 true)) = some r := by rw [if_pos rfl] at H; exact H
                      clear H
                      have H := H1
                      clear H1
                      by_cases c52 : t170 = t159
                      · rw [if_pos c52] at H
                        have c52b0 : (t170 == t159) = true := beq_iff_eq.mpr c52
                        have c52b1 : (t170 != t159) = false := bne_eq_false_iff_eq.mpr c52
                        clear c52
                        have H' := Aside0.mk H
                        clear H
                        obtain ⟨Ao53, co53, eo53⟩ := Kd.R_slice HO_11.out
                        subst eo53
                        obtain ⟨Ao54, co54, eo54⟩ := Kd.R_slice HO_6.out
                        subst eo54
                        go_wp2_with (first | (go_at_call 25; (with_reducible refine (laws_eqInt64S.calls kj11 _ _ t169 _ _ t158 true _ ?side1 ?side2 ?side3 ?side4 A50.out).mono ?_); (case side1 => repeat (first | exact (Kd.R_reads' HO_11.out).2.2 | (with_reducible refine Kd.C_alloc ?_ _) | (with_reducible refine Kd.C_drewN ?_ _) | (with_reducible refine Kd.C_drew ?_))); (case side2 => exact (Kd.R_reads' HO_11.out).2.1); (case side3 => repeat (first | exact (Kd.R_reads' HO_6.out).2.2 | (with_reducible refine Kd.C_alloc ?_ _) | (with_reducible refine Kd.C_drewN ?_ _) | (with_reducible refine Kd.C_drew ?_))); (case side4 => exact (Kd.R_reads' HO_6.out).2.1); rintro e w' ⟨rfl, ⟨nd, rfl⟩⟩))
                        go_meet
                        case rel => exact ⟨_, ((t171 != t160)), (by first | rfl | (simp; done) | (simp [*]; done)), H', ⟨by have := HJ11.out; first | omega | exact Nat.le_refl _⟩, ⟨by (with_reducible repeat (first | apply Kd.R_alloc | apply Kd.R_drewN | apply Kd.R_drew)); exact Kd.R_mono HO_6.out (fun _ hk => hk.2.1)⟩, ⟨by (with_reducible repeat (first | apply Kd.R_alloc | apply Kd.R_drewN | apply Kd.R_drew)); exact Kd.R_mono HO_11.out (fun _ hk => hk.1)⟩, ⟨by repeat (first | (with_reducible first | exact HB.out | apply below_alloc | apply pw_below_drewN | apply below_drew1) | exact HB.out)⟩⟩
                      · rw [if_neg c52] at H
                        have c52b0 : (t170 == t159) = false := beq_eq_false_iff_ne.mpr c52
                        have c52b1 : (t170 != t159) = true := bne_iff_ne.mpr c52
                        have H' := Aside0.mk H
                        clear H
                        obtain ⟨Ao55, co55, eo55⟩ := Kd.R_slice HO_11.out
                        subst eo55
                        obtain ⟨Ao56, co56, eo56⟩ := Kd.R_slice HO_6.out
                        subst eo56
                        go_wp2_with (first | (go_at_call 25; (with_reducible refine (laws_eqInt64S.calls kj11 _ _ t169 _ _ t158 true _ ?side1 ?side2 ?side3 ?side4 A50.out).mono ?_); (case side1 => repeat (first | exact (Kd.R_reads' HO_11.out).2.2 | (with_reducible refine Kd.C_alloc ?_ _) | (with_reducible refine Kd.C_drewN ?_ _) | (with_reducible refine Kd.C_drew ?_))); (case side2 => exact (Kd.R_reads' HO_11.out).2.1); (case side3 => repeat (first | exact (Kd.R_reads' HO_6.out).2.2 | (with_reducible refine Kd.C_alloc ?_ _) | (with_reducible refine Kd.C_drewN ?_ _) | (with_reducible refine Kd.C_drew ?_))); (case side4 => exact (Kd.R_reads' HO_6.out).2.1); rintro e w' ⟨rfl, ⟨nd, rfl⟩⟩))
                        go_meet
                        case rel => exact ⟨_, (true), (by first | rfl | (simp; done) | (simp [*]; done)), H', ⟨by have := HJ11.out; first | omega | exact Nat.le_refl _⟩, ⟨by (with_reducible repeat (first | apply Kd.R_alloc | apply Kd.R_drewN | apply Kd.R_drew)); exact Kd.R_mono HO_6.out (fun _ hk => hk.2.1)⟩, ⟨by (with_reducible repeat (first | apply Kd.R_alloc | apply Kd.R_drewN | apply Kd.R_drew)); exact Kd.R_mono HO_11.out (fun _ hk => hk.1)⟩, ⟨by repeat (first | (with_reducible first | exact HB.out | apply below_alloc | apply pw_below_drewN | apply below_drew1) | exact HB.out)⟩⟩
                    · replace c51 := Bool.eq_false_iff.mpr c51
                      subst c51
                      have H1 : (laws_FnExactFewestOpened.j1 kj11 l0 l1 t158 t159 t160 t169 true) = some r := by rw [if_neg (show ¬ (false = true) by decide)] at H; exact H
                      clear H
                      have H := H1
                      clear H1
                      have H' := Aside0.mk H
                      clear H
                      obtain ⟨Ao57, co57, eo57⟩ := Kd.R_slice HO_11.out
                      subst eo57
                      obtain ⟨Ao58, co58, eo58⟩ := Kd.R_slice HO_6.out
                      subst eo58
                      go_wp2_with (first | (go_at_call 25; (with_reducible refine (laws_eqInt64S.calls kj11 _ _ t169 _ _ t158 false _ ?side1 ?side2 ?side3 ?side4 A50.out).mono ?_); (case side1 => repeat (first | exact (Kd.R_reads' HO_11.out).2.2 | (with_reducible refine Kd.C_alloc ?_ _) | (with_reducible refine Kd.C_drewN ?_ _) | (with_reducible refine Kd.C_drew ?_))); (case side2 => exact (Kd.R_reads' HO_11.out).2.1); (case side3 => repeat (first | exact (Kd.R_reads' HO_6.out).2.2 | (with_reducible refine Kd.C_alloc ?_ _) | (with_reducible refine Kd.C_drewN ?_ _) | (with_reducible refine Kd.C_drew ?_))); (case side4 => exact (Kd.R_reads' HO_6.out).2.1); rintro e w' ⟨rfl, ⟨nd, rfl⟩⟩))
                      go_meet
                      case rel => exact ⟨_, (true), (by first | rfl | (simp; done) | (simp [*]; done)), H', ⟨by have := HJ11.out; first | omega | exact Nat.le_refl _⟩, ⟨by (with_reducible repeat (first | apply Kd.R_alloc | apply Kd.R_drewN | apply Kd.R_drew)); exact Kd.R_mono HO_6.out (fun _ hk => hk.2.1)⟩, ⟨by (with_reducible repeat (first | apply Kd.R_alloc | apply Kd.R_drewN | apply Kd.R_drew)); exact Kd.R_mono HO_11.out (fun _ hk => hk.1)⟩, ⟨by repeat (first | (with_reducible first | exact HB.out | apply below_alloc | apply pw_below_drewN | apply below_drew1) | exact HB.out)⟩⟩
                case rest =>
                  as_aux_lemma =>
                  clear HC41
                  try clear c1
                  try clear c2
                  try clear p2
                  try clear c3
                  try clear c3b0
                  try clear c3b1
                  try clear c4
                  try clear c5
                  try clear c5b0
                  try clear c21
                  try clear c23
                  try clear c24
                  try clear c25
                  try clear c25b0
                  try clear c25b1
                  try clear c26
                  try clear c27
                  try clear c28
                  try clear c30
                  try clear c31
                  try clear c32
                  try clear c35
                  try clear c38
                  try clear c49
                  try clear c49b0
                  try clear c51
                  try clear c52
                  try clear c52b0
                  try clear c52b1
                  try clear p2
                  obtain ⟨kq, x95_40, rfl, HA, HJ40, HO_6, HO_11, HB⟩ := hcut
                  cases kq with
                  | zero => exact absurd HA.out (by simp [laws_FnExactFewestOpened.j1])
                  | succ kj40 =>
                    have H := HA.out
                    clear HA
                    simp only [laws_FnExactFewestOpened.j1] at H
                    by_cases c59 : x95_40 = true
                    · subst c59
                      have H1 : (none) = some r := by rw [if_pos rfl] at H; exact H
                      clear H
                      have H := H1
                      clear H1
                      exact absurd H (by simp)
                    · replace c59 := Bool.eq_false_iff.mpr c59
                      subst c59
                      have H1 : ((laws_markInt64S.f kj40 t169 1).bind fun bt188 => ((laws_heldInt64S.f kj40 bt188.2 1).bind fun t190 => (if t190 < 0 then (none) else (if t190 = bt188.1 then ((laws_toYarnS.f kj40 l0).bind fun t191 => ((laws_toInt64S.f kj40 l1).bind fun t194 => ((impl_FewestOpened.f kj40 t191 t194).bind fun bt197 => ((laws_eqInt64S.f kj40 bt197.1 t158).bind fun t202 => (if t202 = true then (if bt197.2.1 = t159 then (laws_FnExactFewestOpened.j2 kj40 bt188.2 bt188.1 (bt197.2.2 != t160)) else (laws_FnExactFewestOpened.j2 kj40 bt188.2 bt188.1 true)) else (laws_FnExactFewestOpened.j2 kj40 bt188.2 bt188.1 true)))))) else (none))))) = some r := by rw [if_neg (show ¬ (false = true) by decide)] at H; exact H
                      clear H
                      have H := H1
                      clear H1
                      replace H := Option.bind_eq_some_iff.mp H
                      obtain ⟨⟨t188, t189⟩, A600, H⟩ := H
                      replace H : ((laws_heldInt64S.f kj40 t189 1).bind fun t190 => (if t190 < 0 then (none) else (if t190 = t188 then ((laws_toYarnS.f kj40 l0).bind fun t191 => ((laws_toInt64S.f kj40 l1).bind fun t194 => ((impl_FewestOpened.f kj40 t191 t194).bind fun bt197 => ((laws_eqInt64S.f kj40 bt197.1 t158).bind fun t202 => (if t202 = true then (if bt197.2.1 = t159 then (laws_FnExactFewestOpened.j2 kj40 t189 t188 (bt197.2.2 != t160)) else (laws_FnExactFewestOpened.j2 kj40 t189 t188 true)) else (laws_FnExactFewestOpened.j2 kj40 t189 t188 true)))))) else (none)))) = some r := H
                      have A60 := Aside0.mk A600
                      clear A600
                      replace H := Option.bind_eq_some_iff.mp H
                      obtain ⟨t190, A610, H⟩ := H
                      replace H : (if t190 < 0 then (none) else (if t190 = t188 then ((laws_toYarnS.f kj40 l0).bind fun t191 => ((laws_toInt64S.f kj40 l1).bind fun t194 => ((impl_FewestOpened.f kj40 t191 t194).bind fun bt197 => ((laws_eqInt64S.f kj40 bt197.1 t158).bind fun t202 => (if t202 = true then (if bt197.2.1 = t159 then (laws_FnExactFewestOpened.j2 kj40 t189 t188 (bt197.2.2 != t160)) else (laws_FnExactFewestOpened.j2 kj40 t189 t188 true)) else (laws_FnExactFewestOpened.j2 kj40 t189 t188 true)))))) else (none))) = some r := H
                      have A61 := Aside0.mk A610
                      clear A610
                      by_cases c62 : t190 < 0
                      · rw [if_pos c62] at H
                        exact absurd H (by simp)
                      · rw [if_neg c62] at H
                        have c62b0 : decide (t190 < 0) = false := decide_eq_false c62
                        clear c62
                        by_cases c63 : t190 = t188
                        · rw [if_pos c63] at H
                          have c63b0 : (t190 == t188) = true := beq_iff_eq.mpr c63
                          have c63b1 : (t190 != t188) = false := bne_eq_false_iff_eq.mpr c63
                          clear c63
                          replace H := Option.bind_eq_some_iff.mp H
                          obtain ⟨t191, A640, H⟩ := H
                          replace H : ((laws_toInt64S.f kj40 l1).bind fun t194 => ((impl_FewestOpened.f kj40 t191 t194).bind fun bt197 => ((laws_eqInt64S.f kj40 bt197.1 t158).bind fun t202 => (if t202 = true then (if bt197.2.1 = t159 then (laws_FnExactFewestOpened.j2 kj40 t189 t188 (bt197.2.2 != t160)) else (laws_FnExactFewestOpened.j2 kj40 t189 t188 true)) else (laws_FnExactFewestOpened.j2 kj40 t189 t188 true))))) = some r := H
                          have A64 := Aside0.mk A640
                          clear A640
                          replace H := Option.bind_eq_some_iff.mp H
                          obtain ⟨t194, A650, H⟩ := H
                          replace H : ((impl_FewestOpened.f kj40 t191 t194).bind fun bt197 => ((laws_eqInt64S.f kj40 bt197.1 t158).bind fun t202 => (if t202 = true then (if bt197.2.1 = t159 then (laws_FnExactFewestOpened.j2 kj40 t189 t188 (bt197.2.2 != t160)) else (laws_FnExactFewestOpened.j2 kj40 t189 t188 true)) else (laws_FnExactFewestOpened.j2 kj40 t189 t188 true)))) = some r := H
                          have A65 := Aside0.mk A650
                          clear A650
                          replace H := Option.bind_eq_some_iff.mp H
                          obtain ⟨⟨t197, t198, t199⟩, A660, H⟩ := H
                          replace H : ((laws_eqInt64S.f kj40 t197 t158).bind fun t202 => (if t202 = true then (if t198 = t159 then (laws_FnExactFewestOpened.j2 kj40 t189 t188 (t199 != t160)) else (laws_FnExactFewestOpened.j2 kj40 t189 t188 true)) else (laws_FnExactFewestOpened.j2 kj40 t189 t188 true))) = some r := H
                          have A66 := Aside0.mk A660
                          clear A660
                          have HC67 := Aside0.mk H
                          clear H
                          obtain ⟨Ao68, co68, eo68⟩ := Kd.R_slice HO_11.out
                          subst eo68
                          go_upto_region 31 with (first | ((with_reducible refine gate_callee (f := 28) rfl ?_); refine goesL_ (some 98) rfl rfl Try.func28 (by kernel_rfl) rfl #[.slice Ao68 t169.length co68, .int .i64 1] rfl (by (try simp only [List.map_toArray, List.map_cons, List.map_nil]); first | done | rfl | (simp only [List.length_drop, List.length_take]; rfl)) ?_; (with_reducible refine (laws_markInt64S.calls kj40 (fun k_ => some k_ = (.slice Ao68 t169.length co68 : Value).ownBlock) (.slice Ao68 t169.length co68) t169 1 t188 t189 w _ ?side1 ?side2 A60.out).mono ?_); (case side1 => repeat (first | (with_reducible first | exact HB.out | apply below_alloc | apply pw_below_drewN | apply below_drew1) | exact HB.out)); (case side2 => exact Kd.R_tight rfl HO_11.out); rintro e w69 ⟨rfl, hy0, hb, hkp⟩; refine ⟨_, rfl, ?_⟩; have n0_ := Aside0.mk (Kd.R_mono (ok' := fun k_ => some k_ ≠ (.slice Ao68 t169.length co68 : Value).ownBlock) (Kd.R_keptB (HO_6.out) hkp (fun k_ hk_ hs_ => (hk_) hs_)) (fun k_ hk_ => hk_.1)); have n1_ := Aside0.mk (Kd.R_reok rfl hy0 (fun k_ e_ => HO_11.out.1 k_ e_)); have n2_ := Aside0.mk (hb); clear HO_6; clear HO_11; clear HB; have HO_6 := n0_; have HO_11 := n1_; have HB := n2_; clear n0_ n1_ n2_; (try clear hb); (try clear hkp); (try clear hy0)) | ((with_reducible refine gate_callee (f := 29) rfl ?_); refine goesL_ (some 101) rfl rfl Try.func29 (by kernel_rfl) rfl #[.slice Ao68 t189.length co68, .int .i64 1] rfl (by (try simp only [List.map_toArray, List.map_cons, List.map_nil]); first | done | (rw [show t189.length = t169.length from (Kd.R_reads' HO_11.out).1.symm] <;> rfl) | rfl | (simp only [List.length_drop, List.length_take]; rfl)) ?_; (with_reducible refine (laws_heldInt64S.calls kj40 _ _ t189 1 t190 _ ?side1 ?side2 A61.out).mono ?_); (case side1 => repeat (first | exact (Kd.R_reads' HO_11.out).2.2 | (with_reducible refine Kd.C_alloc ?_ _) | (with_reducible refine Kd.C_drewN ?_ _) | (with_reducible refine Kd.C_drew ?_))); (case side2 => rw [show t189.length = t169.length from (Kd.R_reads' HO_11.out).1.symm]; exact (Kd.R_reads' HO_11.out).2.1); rintro e w' ⟨rfl, ⟨nd, rfl⟩⟩; refine ⟨_, rfl, ?_⟩) | ((with_reducible refine gate_callee (f := 23) rfl ?_); refine goesL_ (some 109) rfl rfl Try.func23 (by kernel_rfl) rfl #[.slice A0 l0.length c0] rfl (by (try simp only [List.map_toArray, List.map_cons, List.map_nil]); first | done | rfl | (simp only [List.length_drop, List.length_take]; rfl)) ?_; (with_reducible refine (laws_toYarnS.calls kj40 _ _ l0 t191 _ ?side1 ?side2 A64.out).mono ?_); (case side1 => repeat (first | exact (Kd.C_below HR0.out (by repeat (first | (with_reducible first | exact HB.out | apply below_alloc | apply pw_below_drewN | apply below_drew1) | exact HB.out))) | (with_reducible refine Kd.C_alloc ?_ _) | (with_reducible refine Kd.C_drewN ?_ _) | (with_reducible refine Kd.C_drew ?_))); (case side2 => exact HC0.out); rintro e w70 ⟨v192, rfl, ho0, hb⟩; refine ⟨_, rfl, ?_⟩; have n0_ := Aside0.mk (Kd.R_below (by (with_reducible repeat (first | apply Kd.R_alloc | apply Kd.R_drewN | apply Kd.R_drew)); exact HO_6.out) hb); have n1_ := Aside0.mk (Kd.R_below (by (with_reducible repeat (first | apply Kd.R_alloc | apply Kd.R_drewN | apply Kd.R_drew)); exact HO_11.out) hb); have n2_ := Aside0.mk (Kd.R_lower ho0 (below_size (by repeat (first | (with_reducible first | exact HB.out | apply below_alloc | apply pw_below_drewN | apply below_drew1) | exact HB.out)))); have n3_ := Aside0.mk (below_step (by repeat (first | (with_reducible first | exact HB.out | apply below_alloc | apply pw_below_drewN | apply below_drew1) | exact HB.out)) hb); clear HO_6; clear HO_11; clear HB; have HO_6 := n0_; have HO_11 := n1_; have HO193 := n2_; have HB := n3_; clear n0_ n1_ n2_ n3_; (try clear hb); (try clear hb2); (try clear hk); (try clear hi); (try clear ho0)) | ((with_reducible refine gate_callee (f := 31) rfl ?_); refine goesL_ (some 111) rfl rfl Try.func31 (by kernel_rfl) rfl #[.slice A1 l1.length c1] rfl (by (try simp only [List.map_toArray, List.map_cons, List.map_nil]); first | done | rfl | (simp only [List.length_drop, List.length_take]; rfl)) ?_; (with_reducible refine (laws_toInt64S.calls kj40 _ _ l1 t194 _ ?side1 ?side2 A65.out).mono ?_); (case side1 => repeat (first | exact (Kd.C_below HR1.out HB.out) | (with_reducible refine Kd.C_alloc ?_ _) | (with_reducible refine Kd.C_drewN ?_ _) | (with_reducible refine Kd.C_drew ?_))); (case side2 => exact HC1.out); rintro e w71 ⟨v195, rfl, ho0, hb⟩; refine ⟨_, rfl, ?_⟩; have n0_ := Aside0.mk (Kd.R_elder' (by (with_reducible repeat (first | apply Kd.R_alloc | apply Kd.R_drewN | apply Kd.R_drew)); exact HO_6.out) (Kd.R_base ho0) hb); have n1_ := Aside0.mk (Kd.R_elder' (by (with_reducible repeat (first | apply Kd.R_alloc | apply Kd.R_drewN | apply Kd.R_drew)); exact HO_11.out) (Kd.R_base ho0) hb); have n2_ := Aside0.mk (Kd.R_below (by (with_reducible repeat (first | apply Kd.R_alloc | apply Kd.R_drewN | apply Kd.R_drew)); exact HO193.out) hb); have n3_ := Aside0.mk (Kd.R_lower (Kd.R_new' (Kd.R_new' ho0 (Kd.R_lt (by (with_reducible repeat (first | apply Kd.R_alloc | apply Kd.R_drewN | apply Kd.R_drew)); exact HO_6.out))) (Kd.R_lt (by (with_reducible repeat (first | apply Kd.R_alloc | apply Kd.R_drewN | apply Kd.R_drew)); exact HO_11.out))) (below_size (by repeat (first | (with_reducible first | exact HB.out | apply below_alloc | apply pw_below_drewN | apply below_drew1) | exact HB.out)))); have n4_ := Aside0.mk (below_step (by repeat (first | (with_reducible first | exact HB.out | apply below_alloc | apply pw_below_drewN | apply below_drew1) | exact HB.out)) hb); clear HO_6; clear HO_11; clear HO193; clear HB; have HO_6 := n0_; have HO_11 := n1_; have HO193 := n2_; have HO196 := n3_; have HB := n4_; clear n0_ n1_ n2_ n3_ n4_; (try clear hb); (try clear hb2); (try clear hk); (try clear hi); (try clear ho0); obtain ⟨Ao72, co72, eo72⟩ := Kd.R_slice HO193.out; subst eo72; obtain ⟨Ao73, co73, eo73⟩ := Kd.R_slice HO196.out; subst eo73) | ((with_reducible refine gate_callee (f := 32) rfl ?_); refine goesL_ (some 112) rfl rfl Try.func32 (by kernel_rfl) rfl #[.slice Ao72 t191.length co72, .slice Ao73 t194.length co73] rfl (by (try simp only [List.map_toArray, List.map_cons, List.map_nil]); first | done | rfl | (simp only [List.length_drop, List.length_take]; rfl)) ?_; (with_reducible refine (impl_FewestOpened.calls kj40 _ _ t191 _ _ t194 t197 t198 t199 _ ?side1 ?side2 ?side3 ?side4 A66.out).mono ?_); (case side1 => repeat (first | exact (Kd.R_reads' HO193.out).2.2 | (with_reducible refine Kd.C_alloc ?_ _) | (with_reducible refine Kd.C_drewN ?_ _) | (with_reducible refine Kd.C_drew ?_))); (case side2 => exact (Kd.R_reads' HO193.out).2.1); (case side3 => repeat (first | exact (Kd.R_reads' HO196.out).2.2 | (with_reducible refine Kd.C_alloc ?_ _) | (with_reducible refine Kd.C_drewN ?_ _) | (with_reducible refine Kd.C_drew ?_))); (case side4 => exact (Kd.R_reads' HO196.out).2.1); rintro e w74 ⟨v200, rfl, ho0, hb⟩; refine ⟨_, rfl, ?_⟩; have n0_ := Aside0.mk (Kd.R_elder' (by (with_reducible repeat (first | apply Kd.R_alloc | apply Kd.R_drewN | apply Kd.R_drew)); exact HO_6.out) (Kd.R_base ho0) hb); have n1_ := Aside0.mk (Kd.R_elder' (by (with_reducible repeat (first | apply Kd.R_alloc | apply Kd.R_drewN | apply Kd.R_drew)); exact HO_11.out) (Kd.R_base ho0) hb); have n2_ := Aside0.mk (Kd.R_below (by (with_reducible repeat (first | apply Kd.R_alloc | apply Kd.R_drewN | apply Kd.R_drew)); exact HO193.out) hb); have n3_ := Aside0.mk (Kd.R_elder' (by (with_reducible repeat (first | apply Kd.R_alloc | apply Kd.R_drewN | apply Kd.R_drew)); exact HO196.out) (Kd.R_base ho0) hb); have n4_ := Aside0.mk (Kd.R_lower (Kd.R_new' (Kd.R_new' (Kd.R_new' ho0 (Kd.R_lt (by (with_reducible repeat (first | apply Kd.R_alloc | apply Kd.R_drewN | apply Kd.R_drew)); exact HO_6.out))) (Kd.R_lt (by (with_reducible repeat (first | apply Kd.R_alloc | apply Kd.R_drewN | apply Kd.R_drew)); exact HO_11.out))) (Kd.R_lt (by (with_reducible repeat (first | apply Kd.R_alloc | apply Kd.R_drewN | apply Kd.R_drew)); exact HO196.out))) (below_size (by repeat (first | (with_reducible first | exact HB.out | apply below_alloc | apply pw_below_drewN | apply below_drew1) | exact HB.out)))); have n5_ := Aside0.mk (below_step (by repeat (first | (with_reducible first | exact HB.out | apply below_alloc | apply pw_below_drewN | apply below_drew1) | exact HB.out)) hb); clear HO_6; clear HO_11; clear HO193; clear HO196; clear HB; have HO_6 := n0_; have HO_11 := n1_; have HO193 := n2_; have HO196 := n3_; have HO201 := n4_; have HB := n5_; clear n0_ n1_ n2_ n3_ n4_ n5_; (try clear hb); (try clear hb2); (try clear hk); (try clear hi); (try clear ho0)))
                          (try simp only [Act.put, List.setIfInBounds_toArray, List.set_cons_zero, List.set_cons_succ])
                          go_cut [129] (fun v129 wc => ∃ (kq : Nat) (x129_66 : Bool), v129 = .bool x129_66 ∧ Aside0 (laws_FnExactFewestOpened.j2 kq t189 t188 x129_66 = some r) ∧ Aside0 (kq ≤ kj40) ∧ Aside0 (Kd.R (Kd.int .i64) 2 wc w.heap.size (fun _ => True) (.slice Ao68 t169.length co68) t189) ∧ Aside0 (Below w.heap.size w wc))
                          case first =>
                            as_aux_lemma =>
                            have H := HC67.out
                            clear HC67
                            replace H := Option.bind_eq_some_iff.mp H
                            obtain ⟨t202, A750, H⟩ := H
                            replace H : (if t202 = true then (if t198 = t159 then (laws_FnExactFewestOpened.j2 kj40 t189 t188 (t199 != t160)) else (laws_FnExactFewestOpened.j2 kj40 t189 t188 true)) else (laws_FnExactFewestOpened.j2 kj40 t189 t188 true)) = some r := H
                            have A75 := Aside0.mk A750
                            clear A750
                            by_cases c76 : t202 = true
                            · subst c76
                              have H1 : (if t198 = t159 then (laws_FnExactFewestOpened.j2 kj40 t189 t188 (t199 != t160)) else (laws_FnExactFewestOpened.j2 kj40 t189 t188 true)) = some r := by rw [if_pos rfl] at H; exact H
                              clear H
                              have H := H1
                              clear H1
                              by_cases c77 : t198 = t159
                              · rw [if_pos c77] at H
                                have c77b0 : (t198 == t159) = true := beq_iff_eq.mpr c77
                                have c77b1 : (t198 != t159) = false := bne_eq_false_iff_eq.mpr c77
                                clear c77
                                (first | rw [c77b0] | (simp only [i64_w, i32_w]; rw [c77b0]) | skip)
                                have H' := Aside0.mk H
                                clear H
                                obtain ⟨Ao78, co78, eo78⟩ := Kd.R_slice HO201.out
                                subst eo78
                                obtain ⟨Ao79, co79, eo79⟩ := Kd.R_slice HO_6.out
                                subst eo79
                                go_wp2_with (first | ((with_reducible refine gate_callee (f := 25) rfl ?_); refine goesL_ (some 118) rfl rfl Try.func25 (by kernel_rfl) rfl #[.slice Ao78 t197.length co78, .slice Ao79 t158.length co79] rfl (by (try simp only [List.map_toArray, List.map_cons, List.map_nil]); first | done | rfl | (simp only [List.length_drop, List.length_take]; rfl)) ?_; (with_reducible refine (laws_eqInt64S.calls kj40 _ _ t197 _ _ t158 true _ ?side1 ?side2 ?side3 ?side4 A75.out).mono ?_); (case side1 => repeat (first | exact (Kd.R_reads' HO201.out).2.2 | (with_reducible refine Kd.C_alloc ?_ _) | (with_reducible refine Kd.C_drewN ?_ _) | (with_reducible refine Kd.C_drew ?_))); (case side2 => exact (Kd.R_reads' HO201.out).2.1); (case side3 => repeat (first | exact (Kd.R_reads' HO_6.out).2.2 | (with_reducible refine Kd.C_alloc ?_ _) | (with_reducible refine Kd.C_drewN ?_ _) | (with_reducible refine Kd.C_drew ?_))); (case side4 => exact (Kd.R_reads' HO_6.out).2.1); rintro e w' ⟨rfl, ⟨nd, rfl⟩⟩; refine ⟨_, rfl, ?_⟩))
                                go_meet
                                case rel => exact ⟨_, ((t199 != t160)), (by first | rfl | (simp; done) | (simp [*]; done)), H', ⟨by have := HJ11.out; have := HJ40.out; first | omega | exact Nat.le_refl _⟩, ⟨by (with_reducible repeat (first | apply Kd.R_alloc | apply Kd.R_drewN | apply Kd.R_drew)); exact Kd.R_mono HO_11.out (fun _ hk => trivial)⟩, ⟨by repeat (first | (with_reducible first | exact HB.out | apply below_alloc | apply pw_below_drewN | apply below_drew1) | exact HB.out)⟩⟩
                              · rw [if_neg c77] at H
                                have c77b0 : (t198 == t159) = false := beq_eq_false_iff_ne.mpr c77
                                have c77b1 : (t198 != t159) = true := bne_iff_ne.mpr c77
                                (first | rw [c77b0] | (simp only [i64_w, i32_w]; rw [c77b0]) | skip)
                                have H' := Aside0.mk H
                                clear H
                                obtain ⟨Ao80, co80, eo80⟩ := Kd.R_slice HO201.out
                                subst eo80
                                obtain ⟨Ao81, co81, eo81⟩ := Kd.R_slice HO_6.out
                                subst eo81
                                go_wp2_with (first | ((with_reducible refine gate_callee (f := 25) rfl ?_); refine goesL_ (some 118) rfl rfl Try.func25 (by kernel_rfl) rfl #[.slice Ao80 t197.length co80, .slice Ao81 t158.length co81] rfl (by (try simp only [List.map_toArray, List.map_cons, List.map_nil]); first | done | rfl | (simp only [List.length_drop, List.length_take]; rfl)) ?_; (with_reducible refine (laws_eqInt64S.calls kj40 _ _ t197 _ _ t158 true _ ?side1 ?side2 ?side3 ?side4 A75.out).mono ?_); (case side1 => repeat (first | exact (Kd.R_reads' HO201.out).2.2 | (with_reducible refine Kd.C_alloc ?_ _) | (with_reducible refine Kd.C_drewN ?_ _) | (with_reducible refine Kd.C_drew ?_))); (case side2 => exact (Kd.R_reads' HO201.out).2.1); (case side3 => repeat (first | exact (Kd.R_reads' HO_6.out).2.2 | (with_reducible refine Kd.C_alloc ?_ _) | (with_reducible refine Kd.C_drewN ?_ _) | (with_reducible refine Kd.C_drew ?_))); (case side4 => exact (Kd.R_reads' HO_6.out).2.1); rintro e w' ⟨rfl, ⟨nd, rfl⟩⟩; refine ⟨_, rfl, ?_⟩))
                                go_meet
                                case rel => exact ⟨_, (true), (by first | rfl | (simp; done) | (simp [*]; done)), H', ⟨by have := HJ11.out; have := HJ40.out; first | omega | exact Nat.le_refl _⟩, ⟨by (with_reducible repeat (first | apply Kd.R_alloc | apply Kd.R_drewN | apply Kd.R_drew)); exact Kd.R_mono HO_11.out (fun _ hk => trivial)⟩, ⟨by repeat (first | (with_reducible first | exact HB.out | apply below_alloc | apply pw_below_drewN | apply below_drew1) | exact HB.out)⟩⟩
                            · replace c76 := Bool.eq_false_iff.mpr c76
                              subst c76
                              have H1 : (laws_FnExactFewestOpened.j2 kj40 t189 t188 true) = some r := by rw [if_neg (show ¬ (false = true) by decide)] at H; exact H
                              clear H
                              have H := H1
                              clear H1
                              have H' := Aside0.mk H
                              clear H
                              obtain ⟨Ao82, co82, eo82⟩ := Kd.R_slice HO201.out
                              subst eo82
                              obtain ⟨Ao83, co83, eo83⟩ := Kd.R_slice HO_6.out
                              subst eo83
                              go_wp2_with (first | ((with_reducible refine gate_callee (f := 25) rfl ?_); refine goesL_ (some 118) rfl rfl Try.func25 (by kernel_rfl) rfl #[.slice Ao82 t197.length co82, .slice Ao83 t158.length co83] rfl (by (try simp only [List.map_toArray, List.map_cons, List.map_nil]); first | done | rfl | (simp only [List.length_drop, List.length_take]; rfl)) ?_; (with_reducible refine (laws_eqInt64S.calls kj40 _ _ t197 _ _ t158 false _ ?side1 ?side2 ?side3 ?side4 A75.out).mono ?_); (case side1 => repeat (first | exact (Kd.R_reads' HO201.out).2.2 | (with_reducible refine Kd.C_alloc ?_ _) | (with_reducible refine Kd.C_drewN ?_ _) | (with_reducible refine Kd.C_drew ?_))); (case side2 => exact (Kd.R_reads' HO201.out).2.1); (case side3 => repeat (first | exact (Kd.R_reads' HO_6.out).2.2 | (with_reducible refine Kd.C_alloc ?_ _) | (with_reducible refine Kd.C_drewN ?_ _) | (with_reducible refine Kd.C_drew ?_))); (case side4 => exact (Kd.R_reads' HO_6.out).2.1); rintro e w' ⟨rfl, ⟨nd, rfl⟩⟩; refine ⟨_, rfl, ?_⟩))
                              go_meet
                              case rel => exact ⟨_, (true), (by first | rfl | (simp; done) | (simp [*]; done)), H', ⟨by have := HJ11.out; have := HJ40.out; first | omega | exact Nat.le_refl _⟩, ⟨by (with_reducible repeat (first | apply Kd.R_alloc | apply Kd.R_drewN | apply Kd.R_drew)); exact Kd.R_mono HO_11.out (fun _ hk => trivial)⟩, ⟨by repeat (first | (with_reducible first | exact HB.out | apply below_alloc | apply pw_below_drewN | apply below_drew1) | exact HB.out)⟩⟩
                          case rest =>
                            as_aux_lemma =>
                            clear HC67
                            try clear c1
                            try clear c2
                            try clear p2
                            try clear c3
                            try clear c3b0
                            try clear c3b1
                            try clear c4
                            try clear c5
                            try clear c5b0
                            try clear c6
                            try clear c7
                            try clear c21
                            try clear c23
                            try clear c24
                            try clear c25
                            try clear c25b0
                            try clear c25b1
                            try clear c26
                            try clear c27
                            try clear c28
                            try clear c29
                            try clear c30
                            try clear c31
                            try clear c32
                            try clear c35
                            try clear c38
                            try clear c49
                            try clear c49b0
                            try clear c51
                            try clear c52
                            try clear c52b0
                            try clear c52b1
                            try clear c59
                            try clear c62
                            try clear c62b0
                            try clear c63
                            try clear c63b0
                            try clear c63b1
                            try clear c76
                            try clear c77
                            try clear c77b0
                            try clear c77b1
                            try clear p2
                            obtain ⟨kq, x129_66, rfl, HA, HJ66, HO_11, HB⟩ := hcut
                            have hl11_66 := (Kd.R_reads' HO_11.out).1
                            rw [hl11_66] at HO_11
                            (try simp only [hl11_66])
                            cases kq with
                            | zero => exact absurd HA.out (by simp [laws_FnExactFewestOpened.j2])
                            | succ kj66 =>
                              have H := HA.out
                              clear HA
                              simp only [laws_FnExactFewestOpened.j2] at H
                              by_cases c84 : x129_66 = true
                              · subst c84
                                have H1 : (none) = some r := by rw [if_pos rfl] at H; exact H
                                clear H
                                have H := H1
                                clear H1
                                exact absurd H (by simp)
                              · replace c84 := Bool.eq_false_iff.mpr c84
                                subst c84
                                have H1 : ((laws_heldInt64S.f kj66 t189 1).bind fun t203 => (if t203 < 0 then (none) else (if t203 = t188 then (some true) else (none)))) = some r := by rw [if_neg (show ¬ (false = true) by decide)] at H; exact H
                                clear H
                                have H := H1
                                clear H1
                                replace H := Option.bind_eq_some_iff.mp H
                                obtain ⟨t203, A850, H⟩ := H
                                replace H : (if t203 < 0 then (none) else (if t203 = t188 then (some true) else (none))) = some r := H
                                have A85 := Aside0.mk A850
                                clear A850
                                by_cases c86 : t203 < 0
                                · rw [if_pos c86] at H
                                  exact absurd H (by simp)
                                · rw [if_neg c86] at H
                                  have c86b0 : decide (t203 < 0) = false := decide_eq_false c86
                                  clear c86
                                  by_cases c87 : t203 = t188
                                  · rw [if_pos c87] at H
                                    have c87b0 : (t203 == t188) = true := beq_iff_eq.mpr c87
                                    have c87b1 : (t203 != t188) = false := bne_eq_false_iff_eq.mpr c87
                                    clear c87
                                    obtain rfl := Option.some.inj H
                                    go_wp2_with (first | ((with_reducible refine gate_callee (f := 29) rfl ?_); refine goesL_ (some 132) rfl rfl Try.func29 (by kernel_rfl) rfl #[.slice Ao68 t189.length co68, .int .i64 1] rfl (by (try simp only [List.map_toArray, List.map_cons, List.map_nil]); first | done | rfl | (simp only [List.length_drop, List.length_take]; rfl)) ?_; (with_reducible refine (laws_heldInt64S.calls kj66 _ _ t189 1 t203 _ ?side1 ?side2 A85.out).mono ?_); (case side1 => repeat (first | exact (Kd.R_reads' HO_11.out).2.2 | (with_reducible refine Kd.C_alloc ?_ _) | (with_reducible refine Kd.C_drewN ?_ _) | (with_reducible refine Kd.C_drew ?_))); (case side2 => exact (Kd.R_reads' HO_11.out).2.1); rintro e w' ⟨rfl, ⟨nd, rfl⟩⟩; refine ⟨_, rfl, ?_⟩))
                                    go_ret
                                    exact ⟨by first | rfl | (simp [errW_none, errW_some] <;> rfl) | (simp [*, errW_none, errW_some] <;> rfl), by repeat (first | (with_reducible first | exact HB.out | apply below_alloc | apply pw_below_drewN | apply below_drew1) | exact HB.out)⟩
                                  · rw [if_neg c87] at H
                                    exact absurd H (by simp)
                        · rw [if_neg c63] at H
                          exact absurd H (by simp)
              · replace c38 := Bool.eq_false_iff.mpr c38
                subst c38
                have H1 : (none) = some r := by rw [if_neg (show ¬ (false = true) by decide)] at H; exact H
                clear H
                have H := H1
                clear H1
                exact absurd H (by simp)
            · replace c35 := Bool.eq_false_iff.mpr c35
              subst c35
              have H1 : (none) = some r := by rw [if_neg (show ¬ (false = true) by decide)] at H; exact H
              clear H
              have H := H1
              clear H1
              exact absurd H (by simp)

/-- THE ONE PURE STATEMENT of laws_FnExactFewestOpened: yours. -/
def laws_FnExactFewestOpened.Pure : Prop := ∀ (l0 : List (S116)) (l1 : List Int), (l0.length * 6 ≤ 140737488351232 ∧ ∀ x_ ∈ l0, ((Lit.int .i16 x_.f0).wf = true ∧ (Lit.int .i16 x_.f1).wf = true ∧ (Lit.int .i16 x_.f2).wf = true)) → (l1.length * 8 ≤ 140737488351232 ∧ ∀ x_ ∈ l1, (Lit.int .i64 x_).wf = true) → ∃ k, laws_FnExactFewestOpened.f k l0 l1 = some true
theorem laws_FnExactFewestOpened.walk (P : laws_FnExactFewestOpened.Pure) (A0 : Option Addr) (c0 : Nat) (l0 : List (S116)) (A1 : Option Addr) (c1 : Nat) (l1 : List Int) (w : World) (hr0 : Kd.C k116 w A0 l0.length l0) (hc0 : l0.length ≤ c0) (hr1 : Kd.C (Kd.int .i64) w A1 l1.length l1) (hc1 : l1.length ≤ c1) (g0 : (l0.length * 6 ≤ 140737488351232 ∧ ∀ x_ ∈ l0, ((Lit.int .i16 x_.f0).wf = true ∧ (Lit.int .i16 x_.f1).wf = true ∧ (Lit.int .i16 x_.f2).wf = true))) (g1 : (l1.length * 8 ≤ 140737488351232 ∧ ∀ x_ ∈ l1, (Lit.int .i64 x_).wf = true)) :
    Calls Try.prog 5 #[.slice A0 l0.length c0, .slice A1 l1.length c1] w fun e w' => e = .returned (.bool true) ∧ Below w.heap.size w w' := by
  obtain ⟨k, h⟩ := P l0 l1 g0 g1
  refine (laws_FnExactFewestOpened.calls k A0 c0 l0 A1 c1 l1 true w hr0 hc0 hr1 hc1 h).mono ?_
  rintro e w' ⟨rfl, hd⟩
  exact ⟨rfl, hd⟩

end Go.Proofs.Ytjhjabibkkhmjaa.XFnExactFewestOpened
