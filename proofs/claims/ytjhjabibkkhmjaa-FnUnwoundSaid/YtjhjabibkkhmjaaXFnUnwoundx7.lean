/- The functions that the law FnUnwound reaches: each as a Lean function, and that its call does what that function says; no conditions. -/
import Derived.Test.YtjhjabibkkhmjaaXFnUnwoundx0
import Derived.Test.YtjhjabibkkhmjaaXFnUnwoundx1
import Derived.Test.YtjhjabibkkhmjaaXFnUnwoundx2
import Derived.Test.YtjhjabibkkhmjaaXFnUnwoundx4
import Derived.Test.YtjhjabibkkhmjaaXFnUnwoundx5
import Derived.Test.YtjhjabibkkhmjaaXFnUnwoundx6
namespace Go.Proofs.Ytjhjabibkkhmjaa.XFnUnwound
open Go.RowKit Go.Proofs.YtjhjabibkkhmjaaW.PrintWords Go.Proofs.YtjhjabibkkhmjaaW.PrintLast Go.Proofs.YtjhjabibkkhmjaaW.PrintMore
attribute [local go_sem] max2_int min2_int max_two min_two max_three min_three max_four min_four   -- for this text's walks alone
set_option linter.unusedVariables false
set_option linter.unusedSimpArgs false

/-! ### laws_FnUnwound: function 3 -/
mutual
def laws_FnUnwound.j0 : Nat → List Int → Int → List Int → List Int → Int → List Int → Bool → Option (Bool)
 | 0, _, _, _, _, _, _, _ => none
 | k + 1, x0, x5, x6, x10, x11, x17, x129 => if x129 = true then (none) else ((impl_CanUnwind.f k x10 x17).bind fun bt285 => (if bt285.2 = 0 then (laws_FnUnwound.j1 k x0 x5 x6 x11 (!bt285.1)) else (laws_FnUnwound.j1 k x0 x5 x6 x11 true)))
def laws_FnUnwound.j1 : Nat → List Int → Int → List Int → Int → Bool → Option (Bool)
 | 0, _, _, _, _, _ => none
 | k + 1, x0, x5, x6, x11, x141 => if x141 = true then (none) else (if 0 ≤ x5 then (if (x5 : Int).toNat ≤ 35184372088832 then (laws_FnUnwound.l0 k x0 x5 x6 x11 (List.replicate (x5 : Int).toNat 0) 0 0) else (none)) else (none))
def laws_FnUnwound.l0 : Nat → List Int → Int → List Int → Int → List Int → Int → Int → Option (Bool)
 | 0, _, _, _, _, _, _, _ => none
 | k + 1, x0, x5, x6, x11, x21, x22, x23 => if x23 < x5 then (if 0 ≤ x23 then (if x23 < (x21.length : Int) then (laws_FnUnwound.l1 k x0 x5 x6 x11 (x21.set (x23 : Int).toNat 1) x22 x23 0) else (none)) else (none)) else (if x22 = x11 then (laws_FnUnwound.l2 k x0 x5 x6 (([] : List Int)) 0) else (none))
def laws_FnUnwound.l1 : Nat → List Int → Int → List Int → Int → List Int → Int → Int → Int → Option (Bool)
 | 0, _, _, _, _, _, _, _, _ => none
 | k + 1, x0, x5, x6, x11, x21, x22, x23, x24 => if x24 < x23 then (if 0 ≤ x24 then (if x24 < (x6.length : Int) then (if 0 ≤ x23 then (if x23 < (x6.length : Int) then (if (rd x6 x24) < (rd x6 x23) then (if x23 < (x21.length : Int) then (if x24 < (x21.length : Int) then (laws_FnUnwound.l1 k x0 x5 x6 x11 (x21.set (x23 : Int).toNat (mx (rd x21 x23) (wrap64 ((rd x21 x24) + 1)))) x22 x23 (wrap64 (x24 + 1))) else (none)) else (none)) else (laws_FnUnwound.l1 k x0 x5 x6 x11 x21 x22 x23 (wrap64 (x24 + 1)))) else (none)) else (none)) else (none)) else (none)) else (if 0 ≤ x23 then (if x23 < (x21.length : Int) then (laws_FnUnwound.l0 k x0 x5 x6 x11 x21 (mx x22 (rd x21 x23)) (wrap64 (x23 + 1))) else (none)) else (none))
def laws_FnUnwound.l2 : Nat → List Int → Int → List Int → List Int → Int → Option (Bool)
 | 0, _, _, _, _, _ => none
 | k + 1, x0, x5, x6, x25, x26 => if x26 < x5 then ((laws_a2At.f x0 (wrap64 (x26 + 1)) 3).bind fun t300 => (if x25.length < 17592186044416 then (laws_FnUnwound.l2 k x0 x5 x6 (x25 ++ [t300]) (wrap64 (x26 + 1))) else (none))) else ((impl_CanUnwind.f k x25 x6).bind fun bt304 => ((spec_CanUnwind.f k x25 x6).bind fun bt306 => (if bt304.2 = bt306.2 then (if bt304.2 = 0 then (laws_FnUnwound.j5 k x5 x6 x25 bt306.1 (bt304.1 != bt306.1)) else (laws_FnUnwound.j5 k x5 x6 x25 bt306.1 true)) else (laws_FnUnwound.j5 k x5 x6 x25 bt306.1 true))))
def laws_FnUnwound.j5 : Nat → Int → List Int → List Int → Bool → Bool → Option (Bool)
 | 0, _, _, _, _, _ => none
 | k + 1, x5, x6, x25, x29, x224 => if x224 = true then (none) else (laws_FnUnwound.l3 k x5 x6 x25 x29 true 0)
def laws_FnUnwound.l3 : Nat → Int → List Int → List Int → Bool → Bool → Int → Option (Bool)
 | 0, _, _, _, _, _, _ => none
 | k + 1, x5, x6, x25, x29, x31, x32 => if x32 < x5 then (laws_FnUnwound.l4 k x5 x6 x25 x29 x31 x32 (wrap64 (x32 + 1))) else (some (x31 == x29))
def laws_FnUnwound.l4 : Nat → Int → List Int → List Int → Bool → Bool → Int → Int → Option (Bool)
 | 0, _, _, _, _, _, _, _ => none
 | k + 1, x5, x6, x25, x29, x31, x32, x33 => if x33 < x5 then (if x31 = true then (if 0 ≤ x32 then (if x32 < (x6.length : Int) then (if 0 ≤ (rd x6 x32) then (if (rd x6 x32) < (x25.length : Int) then (if 0 ≤ x33 then (if x33 < (x6.length : Int) then (if 0 ≤ (rd x6 x33) then (if (rd x6 x33) < (x25.length : Int) then (if (rd x25 (rd x6 x32)) = (rd x25 (rd x6 x33)) then (laws_FnUnwound.l4 k x5 x6 x25 x29 (decide ((rd x6 x32) > (rd x6 x33))) x32 (wrap64 (x33 + 1))) else (laws_FnUnwound.l4 k x5 x6 x25 x29 true x32 (wrap64 (x33 + 1)))) else (none)) else (none)) else (none)) else (none)) else (none)) else (none)) else (none)) else (none)) else (laws_FnUnwound.l4 k x5 x6 x25 x29 false x32 (wrap64 (x33 + 1)))) else (laws_FnUnwound.l3 k x5 x6 x25 x29 x31 (wrap64 (x32 + 1)))
end
def laws_FnUnwound.f (k : Nat) (l0 : List Int) (l1 : List Int) : Option (Bool) := (laws_a2Long.f l0 l1).bind fun t258 => (if t258 = true then (some true) else ((laws_a2At.f l0 0 9).bind fun t259 => ((spec_A2Order.f k l1 t259).bind fun t260 => ((impl_FewestForOrder.f k t260).bind fun bt263 => ((spec_FewestForOrder.f k t260).bind fun bt268 => ((impl_CanUnwind.f k bt268.1 t260).bind fun bt273 => ((impl_UnwindOrder.f k bt268.1).bind fun bt275 => ((spec_UnwindOrder.f k bt268.1).bind fun bt279 => (if bt263.2.2 = bt268.2.2 then (if bt263.2.2 = 0 then ((spec_A2Same.f k bt263.1 bt268.1).bind fun t283 => (if t283 = true then (if bt263.2.1 = bt268.2.1 then (if (bt268.1.length : Int) = t259 then (if bt273.2 = 0 then (if bt273.1 = true then (if bt275.2 = bt279.2 then (if bt275.2 = 0 then ((spec_A2Same.f k bt275.1 bt279.1).bind fun t284 => (if t284 = true then (if (bt279.1.length : Int) = t259 then (laws_FnUnwound.j0 k l0 t259 t260 bt268.1 bt268.2.1 bt279.1 ((bt268.2.1 == 0) != (t259 == 0))) else (laws_FnUnwound.j0 k l0 t259 t260 bt268.1 bt268.2.1 bt279.1 true)) else (laws_FnUnwound.j0 k l0 t259 t260 bt268.1 bt268.2.1 bt279.1 true))) else (laws_FnUnwound.j0 k l0 t259 t260 bt268.1 bt268.2.1 bt279.1 true)) else (laws_FnUnwound.j0 k l0 t259 t260 bt268.1 bt268.2.1 bt279.1 true)) else (laws_FnUnwound.j0 k l0 t259 t260 bt268.1 bt268.2.1 bt279.1 true)) else (laws_FnUnwound.j0 k l0 t259 t260 bt268.1 bt268.2.1 bt279.1 true)) else (laws_FnUnwound.j0 k l0 t259 t260 bt268.1 bt268.2.1 bt279.1 true)) else (laws_FnUnwound.j0 k l0 t259 t260 bt268.1 bt268.2.1 bt279.1 true)) else (laws_FnUnwound.j0 k l0 t259 t260 bt268.1 bt268.2.1 bt279.1 true))) else (laws_FnUnwound.j0 k l0 t259 t260 bt268.1 bt268.2.1 bt279.1 true)) else (laws_FnUnwound.j0 k l0 t259 t260 bt268.1 bt268.2.1 bt279.1 true))))))))))
theorem laws_FnUnwound.mono_l : ∀ k, (∀ y0 y1 y2 y3 y4 y5 y6, LeO (laws_FnUnwound.j0 k y0 y1 y2 y3 y4 y5 y6) (laws_FnUnwound.j0 (k + 1) y0 y1 y2 y3 y4 y5 y6)) ∧ (∀ y0 y1 y2 y3 y4, LeO (laws_FnUnwound.j1 k y0 y1 y2 y3 y4) (laws_FnUnwound.j1 (k + 1) y0 y1 y2 y3 y4)) ∧ (∀ y0 y1 y2 y3 y4 y5 y6, LeO (laws_FnUnwound.l0 k y0 y1 y2 y3 y4 y5 y6) (laws_FnUnwound.l0 (k + 1) y0 y1 y2 y3 y4 y5 y6)) ∧ (∀ y0 y1 y2 y3 y4 y5 y6 y7, LeO (laws_FnUnwound.l1 k y0 y1 y2 y3 y4 y5 y6 y7) (laws_FnUnwound.l1 (k + 1) y0 y1 y2 y3 y4 y5 y6 y7)) ∧ (∀ y0 y1 y2 y3 y4, LeO (laws_FnUnwound.l2 k y0 y1 y2 y3 y4) (laws_FnUnwound.l2 (k + 1) y0 y1 y2 y3 y4)) ∧ (∀ y0 y1 y2 y3 y4, LeO (laws_FnUnwound.j5 k y0 y1 y2 y3 y4) (laws_FnUnwound.j5 (k + 1) y0 y1 y2 y3 y4)) ∧ (∀ y0 y1 y2 y3 y4 y5, LeO (laws_FnUnwound.l3 k y0 y1 y2 y3 y4 y5) (laws_FnUnwound.l3 (k + 1) y0 y1 y2 y3 y4 y5)) ∧ (∀ y0 y1 y2 y3 y4 y5 y6, LeO (laws_FnUnwound.l4 k y0 y1 y2 y3 y4 y5 y6) (laws_FnUnwound.l4 (k + 1) y0 y1 y2 y3 y4 y5 y6))
 | 0 => ⟨fun _ _ _ _ _ _ _ r h => by simp [laws_FnUnwound.j0] at h, fun _ _ _ _ _ r h => by simp [laws_FnUnwound.j1] at h, fun _ _ _ _ _ _ _ r h => by simp [laws_FnUnwound.l0] at h, fun _ _ _ _ _ _ _ _ r h => by simp [laws_FnUnwound.l1] at h, fun _ _ _ _ _ r h => by simp [laws_FnUnwound.l2] at h, fun _ _ _ _ _ r h => by simp [laws_FnUnwound.j5] at h, fun _ _ _ _ _ _ r h => by simp [laws_FnUnwound.l3] at h, fun _ _ _ _ _ _ _ r h => by simp [laws_FnUnwound.l4] at h⟩
 | k + 1 => by
  obtain ⟨ih0, ih1, ih2, ih3, ih4, ih5, ih6, ih7⟩ := laws_FnUnwound.mono_l k
  refine ⟨?_, ?_, ?_, ?_, ?_, ?_, ?_, ?_⟩
  ·intro y0 y1 y2 y3 y4 y5 y6
   unfold laws_FnUnwound.j0
   repeat' first
   | (with_reducible exact ih0 _ _ _ _ _ _ _)
   | (with_reducible exact ih1 _ _ _ _ _)
   | (with_reducible exact ih2 _ _ _ _ _ _ _)
   | (with_reducible exact ih3 _ _ _ _ _ _ _ _)
   | (with_reducible exact ih4 _ _ _ _ _)
   | (with_reducible exact ih5 _ _ _ _ _)
   | (with_reducible exact ih6 _ _ _ _ _ _)
   | (with_reducible exact ih7 _ _ _ _ _ _ _)
   | (with_reducible exact impl_CanUnwind.mono _ _ _)
   | (with_reducible exact impl_FewestForOrder.mono _ _)
   | (with_reducible exact impl_UnwindOrder.mono _ _)
   | (with_reducible exact spec_A2Order.mono _ _ _)
   | (with_reducible exact spec_A2Same.mono _ _ _)
   | (with_reducible exact spec_CanUnwind.mono _ _ _)
   | (with_reducible exact spec_FewestForOrder.mono _ _)
   | (with_reducible exact spec_UnwindOrder.mono _ _)
   | (with_reducible exact LeO.refl _)
   | (with_reducible exact LeO.none _)
   | (with_reducible refine LeO.ite ?_ ?_)
   | (with_reducible refine LeO.bind ?_ (fun _ => ?_))
   | (with_reducible refine allG_mono _ (fun _ => ?_))
   | (with_reducible refine idxG_mono _ (fun _ => ?_))
   | exact ih0 _ _ _ _ _ _ _
   | exact ih1 _ _ _ _ _
   | exact ih2 _ _ _ _ _ _ _
   | exact ih3 _ _ _ _ _ _ _ _
   | exact ih4 _ _ _ _ _
   | exact ih5 _ _ _ _ _
   | exact ih6 _ _ _ _ _ _
   | exact ih7 _ _ _ _ _ _ _
   | exact impl_CanUnwind.mono _ _ _
   | exact impl_FewestForOrder.mono _ _
   | exact impl_UnwindOrder.mono _ _
   | exact spec_A2Order.mono _ _ _
   | exact spec_A2Same.mono _ _ _
   | exact spec_CanUnwind.mono _ _ _
   | exact spec_FewestForOrder.mono _ _
   | exact spec_UnwindOrder.mono _ _
   | exact LeO.none _
   | refine LeO.ite ?_ ?_
   | refine LeO.bind ?_ (fun _ => ?_)
  ·intro y0 y1 y2 y3 y4
   unfold laws_FnUnwound.j1
   repeat' first
   | (with_reducible exact ih0 _ _ _ _ _ _ _)
   | (with_reducible exact ih1 _ _ _ _ _)
   | (with_reducible exact ih2 _ _ _ _ _ _ _)
   | (with_reducible exact ih3 _ _ _ _ _ _ _ _)
   | (with_reducible exact ih4 _ _ _ _ _)
   | (with_reducible exact ih5 _ _ _ _ _)
   | (with_reducible exact ih6 _ _ _ _ _ _)
   | (with_reducible exact ih7 _ _ _ _ _ _ _)
   | (with_reducible exact impl_CanUnwind.mono _ _ _)
   | (with_reducible exact impl_FewestForOrder.mono _ _)
   | (with_reducible exact impl_UnwindOrder.mono _ _)
   | (with_reducible exact spec_A2Order.mono _ _ _)
   | (with_reducible exact spec_A2Same.mono _ _ _)
   | (with_reducible exact spec_CanUnwind.mono _ _ _)
   | (with_reducible exact spec_FewestForOrder.mono _ _)
   | (with_reducible exact spec_UnwindOrder.mono _ _)
   | (with_reducible exact LeO.refl _)
   | (with_reducible exact LeO.none _)
   | (with_reducible refine LeO.ite ?_ ?_)
   | (with_reducible refine LeO.bind ?_ (fun _ => ?_))
   | (with_reducible refine allG_mono _ (fun _ => ?_))
   | (with_reducible refine idxG_mono _ (fun _ => ?_))
   | exact ih0 _ _ _ _ _ _ _
   | exact ih1 _ _ _ _ _
   | exact ih2 _ _ _ _ _ _ _
   | exact ih3 _ _ _ _ _ _ _ _
   | exact ih4 _ _ _ _ _
   | exact ih5 _ _ _ _ _
   | exact ih6 _ _ _ _ _ _
   | exact ih7 _ _ _ _ _ _ _
   | exact impl_CanUnwind.mono _ _ _
   | exact impl_FewestForOrder.mono _ _
   | exact impl_UnwindOrder.mono _ _
   | exact spec_A2Order.mono _ _ _
   | exact spec_A2Same.mono _ _ _
   | exact spec_CanUnwind.mono _ _ _
   | exact spec_FewestForOrder.mono _ _
   | exact spec_UnwindOrder.mono _ _
   | exact LeO.none _
   | refine LeO.ite ?_ ?_
   | refine LeO.bind ?_ (fun _ => ?_)
  ·intro y0 y1 y2 y3 y4 y5 y6
   unfold laws_FnUnwound.l0
   repeat' first
   | (with_reducible exact ih0 _ _ _ _ _ _ _)
   | (with_reducible exact ih1 _ _ _ _ _)
   | (with_reducible exact ih2 _ _ _ _ _ _ _)
   | (with_reducible exact ih3 _ _ _ _ _ _ _ _)
   | (with_reducible exact ih4 _ _ _ _ _)
   | (with_reducible exact ih5 _ _ _ _ _)
   | (with_reducible exact ih6 _ _ _ _ _ _)
   | (with_reducible exact ih7 _ _ _ _ _ _ _)
   | (with_reducible exact impl_CanUnwind.mono _ _ _)
   | (with_reducible exact impl_FewestForOrder.mono _ _)
   | (with_reducible exact impl_UnwindOrder.mono _ _)
   | (with_reducible exact spec_A2Order.mono _ _ _)
   | (with_reducible exact spec_A2Same.mono _ _ _)
   | (with_reducible exact spec_CanUnwind.mono _ _ _)
   | (with_reducible exact spec_FewestForOrder.mono _ _)
   | (with_reducible exact spec_UnwindOrder.mono _ _)
   | (with_reducible exact LeO.refl _)
   | (with_reducible exact LeO.none _)
   | (with_reducible refine LeO.ite ?_ ?_)
   | (with_reducible refine LeO.bind ?_ (fun _ => ?_))
   | (with_reducible refine allG_mono _ (fun _ => ?_))
   | (with_reducible refine idxG_mono _ (fun _ => ?_))
   | exact ih0 _ _ _ _ _ _ _
   | exact ih1 _ _ _ _ _
   | exact ih2 _ _ _ _ _ _ _
   | exact ih3 _ _ _ _ _ _ _ _
   | exact ih4 _ _ _ _ _
   | exact ih5 _ _ _ _ _
   | exact ih6 _ _ _ _ _ _
   | exact ih7 _ _ _ _ _ _ _
   | exact impl_CanUnwind.mono _ _ _
   | exact impl_FewestForOrder.mono _ _
   | exact impl_UnwindOrder.mono _ _
   | exact spec_A2Order.mono _ _ _
   | exact spec_A2Same.mono _ _ _
   | exact spec_CanUnwind.mono _ _ _
   | exact spec_FewestForOrder.mono _ _
   | exact spec_UnwindOrder.mono _ _
   | exact LeO.none _
   | refine LeO.ite ?_ ?_
   | refine LeO.bind ?_ (fun _ => ?_)
  ·intro y0 y1 y2 y3 y4 y5 y6 y7
   unfold laws_FnUnwound.l1
   repeat' first
   | (with_reducible exact ih0 _ _ _ _ _ _ _)
   | (with_reducible exact ih1 _ _ _ _ _)
   | (with_reducible exact ih2 _ _ _ _ _ _ _)
   | (with_reducible exact ih3 _ _ _ _ _ _ _ _)
   | (with_reducible exact ih4 _ _ _ _ _)
   | (with_reducible exact ih5 _ _ _ _ _)
   | (with_reducible exact ih6 _ _ _ _ _ _)
   | (with_reducible exact ih7 _ _ _ _ _ _ _)
   | (with_reducible exact impl_CanUnwind.mono _ _ _)
   | (with_reducible exact impl_FewestForOrder.mono _ _)
   | (with_reducible exact impl_UnwindOrder.mono _ _)
   | (with_reducible exact spec_A2Order.mono _ _ _)
   | (with_reducible exact spec_A2Same.mono _ _ _)
   | (with_reducible exact spec_CanUnwind.mono _ _ _)
   | (with_reducible exact spec_FewestForOrder.mono _ _)
   | (with_reducible exact spec_UnwindOrder.mono _ _)
   | (with_reducible exact LeO.refl _)
   | (with_reducible exact LeO.none _)
   | (with_reducible refine LeO.ite ?_ ?_)
   | (with_reducible refine LeO.bind ?_ (fun _ => ?_))
   | (with_reducible refine allG_mono _ (fun _ => ?_))
   | (with_reducible refine idxG_mono _ (fun _ => ?_))
   | exact ih0 _ _ _ _ _ _ _
   | exact ih1 _ _ _ _ _
   | exact ih2 _ _ _ _ _ _ _
   | exact ih3 _ _ _ _ _ _ _ _
   | exact ih4 _ _ _ _ _
   | exact ih5 _ _ _ _ _
   | exact ih6 _ _ _ _ _ _
   | exact ih7 _ _ _ _ _ _ _
   | exact impl_CanUnwind.mono _ _ _
   | exact impl_FewestForOrder.mono _ _
   | exact impl_UnwindOrder.mono _ _
   | exact spec_A2Order.mono _ _ _
   | exact spec_A2Same.mono _ _ _
   | exact spec_CanUnwind.mono _ _ _
   | exact spec_FewestForOrder.mono _ _
   | exact spec_UnwindOrder.mono _ _
   | exact LeO.none _
   | refine LeO.ite ?_ ?_
   | refine LeO.bind ?_ (fun _ => ?_)
  ·intro y0 y1 y2 y3 y4
   unfold laws_FnUnwound.l2
   repeat' first
   | (with_reducible exact ih0 _ _ _ _ _ _ _)
   | (with_reducible exact ih1 _ _ _ _ _)
   | (with_reducible exact ih2 _ _ _ _ _ _ _)
   | (with_reducible exact ih3 _ _ _ _ _ _ _ _)
   | (with_reducible exact ih4 _ _ _ _ _)
   | (with_reducible exact ih5 _ _ _ _ _)
   | (with_reducible exact ih6 _ _ _ _ _ _)
   | (with_reducible exact ih7 _ _ _ _ _ _ _)
   | (with_reducible exact impl_CanUnwind.mono _ _ _)
   | (with_reducible exact impl_FewestForOrder.mono _ _)
   | (with_reducible exact impl_UnwindOrder.mono _ _)
   | (with_reducible exact spec_A2Order.mono _ _ _)
   | (with_reducible exact spec_A2Same.mono _ _ _)
   | (with_reducible exact spec_CanUnwind.mono _ _ _)
   | (with_reducible exact spec_FewestForOrder.mono _ _)
   | (with_reducible exact spec_UnwindOrder.mono _ _)
   | (with_reducible exact LeO.refl _)
   | (with_reducible exact LeO.none _)
   | (with_reducible refine LeO.ite ?_ ?_)
   | (with_reducible refine LeO.bind ?_ (fun _ => ?_))
   | (with_reducible refine allG_mono _ (fun _ => ?_))
   | (with_reducible refine idxG_mono _ (fun _ => ?_))
   | exact ih0 _ _ _ _ _ _ _
   | exact ih1 _ _ _ _ _
   | exact ih2 _ _ _ _ _ _ _
   | exact ih3 _ _ _ _ _ _ _ _
   | exact ih4 _ _ _ _ _
   | exact ih5 _ _ _ _ _
   | exact ih6 _ _ _ _ _ _
   | exact ih7 _ _ _ _ _ _ _
   | exact impl_CanUnwind.mono _ _ _
   | exact impl_FewestForOrder.mono _ _
   | exact impl_UnwindOrder.mono _ _
   | exact spec_A2Order.mono _ _ _
   | exact spec_A2Same.mono _ _ _
   | exact spec_CanUnwind.mono _ _ _
   | exact spec_FewestForOrder.mono _ _
   | exact spec_UnwindOrder.mono _ _
   | exact LeO.none _
   | refine LeO.ite ?_ ?_
   | refine LeO.bind ?_ (fun _ => ?_)
  ·intro y0 y1 y2 y3 y4
   unfold laws_FnUnwound.j5
   repeat' first
   | (with_reducible exact ih0 _ _ _ _ _ _ _)
   | (with_reducible exact ih1 _ _ _ _ _)
   | (with_reducible exact ih2 _ _ _ _ _ _ _)
   | (with_reducible exact ih3 _ _ _ _ _ _ _ _)
   | (with_reducible exact ih4 _ _ _ _ _)
   | (with_reducible exact ih5 _ _ _ _ _)
   | (with_reducible exact ih6 _ _ _ _ _ _)
   | (with_reducible exact ih7 _ _ _ _ _ _ _)
   | (with_reducible exact impl_CanUnwind.mono _ _ _)
   | (with_reducible exact impl_FewestForOrder.mono _ _)
   | (with_reducible exact impl_UnwindOrder.mono _ _)
   | (with_reducible exact spec_A2Order.mono _ _ _)
   | (with_reducible exact spec_A2Same.mono _ _ _)
   | (with_reducible exact spec_CanUnwind.mono _ _ _)
   | (with_reducible exact spec_FewestForOrder.mono _ _)
   | (with_reducible exact spec_UnwindOrder.mono _ _)
   | (with_reducible exact LeO.refl _)
   | (with_reducible exact LeO.none _)
   | (with_reducible refine LeO.ite ?_ ?_)
   | (with_reducible refine LeO.bind ?_ (fun _ => ?_))
   | (with_reducible refine allG_mono _ (fun _ => ?_))
   | (with_reducible refine idxG_mono _ (fun _ => ?_))
   | exact ih0 _ _ _ _ _ _ _
   | exact ih1 _ _ _ _ _
   | exact ih2 _ _ _ _ _ _ _
   | exact ih3 _ _ _ _ _ _ _ _
   | exact ih4 _ _ _ _ _
   | exact ih5 _ _ _ _ _
   | exact ih6 _ _ _ _ _ _
   | exact ih7 _ _ _ _ _ _ _
   | exact impl_CanUnwind.mono _ _ _
   | exact impl_FewestForOrder.mono _ _
   | exact impl_UnwindOrder.mono _ _
   | exact spec_A2Order.mono _ _ _
   | exact spec_A2Same.mono _ _ _
   | exact spec_CanUnwind.mono _ _ _
   | exact spec_FewestForOrder.mono _ _
   | exact spec_UnwindOrder.mono _ _
   | exact LeO.none _
   | refine LeO.ite ?_ ?_
   | refine LeO.bind ?_ (fun _ => ?_)
  ·intro y0 y1 y2 y3 y4 y5
   unfold laws_FnUnwound.l3
   repeat' first
   | (with_reducible exact ih0 _ _ _ _ _ _ _)
   | (with_reducible exact ih1 _ _ _ _ _)
   | (with_reducible exact ih2 _ _ _ _ _ _ _)
   | (with_reducible exact ih3 _ _ _ _ _ _ _ _)
   | (with_reducible exact ih4 _ _ _ _ _)
   | (with_reducible exact ih5 _ _ _ _ _)
   | (with_reducible exact ih6 _ _ _ _ _ _)
   | (with_reducible exact ih7 _ _ _ _ _ _ _)
   | (with_reducible exact impl_CanUnwind.mono _ _ _)
   | (with_reducible exact impl_FewestForOrder.mono _ _)
   | (with_reducible exact impl_UnwindOrder.mono _ _)
   | (with_reducible exact spec_A2Order.mono _ _ _)
   | (with_reducible exact spec_A2Same.mono _ _ _)
   | (with_reducible exact spec_CanUnwind.mono _ _ _)
   | (with_reducible exact spec_FewestForOrder.mono _ _)
   | (with_reducible exact spec_UnwindOrder.mono _ _)
   | (with_reducible exact LeO.refl _)
   | (with_reducible exact LeO.none _)
   | (with_reducible refine LeO.ite ?_ ?_)
   | (with_reducible refine LeO.bind ?_ (fun _ => ?_))
   | (with_reducible refine allG_mono _ (fun _ => ?_))
   | (with_reducible refine idxG_mono _ (fun _ => ?_))
   | exact ih0 _ _ _ _ _ _ _
   | exact ih1 _ _ _ _ _
   | exact ih2 _ _ _ _ _ _ _
   | exact ih3 _ _ _ _ _ _ _ _
   | exact ih4 _ _ _ _ _
   | exact ih5 _ _ _ _ _
   | exact ih6 _ _ _ _ _ _
   | exact ih7 _ _ _ _ _ _ _
   | exact impl_CanUnwind.mono _ _ _
   | exact impl_FewestForOrder.mono _ _
   | exact impl_UnwindOrder.mono _ _
   | exact spec_A2Order.mono _ _ _
   | exact spec_A2Same.mono _ _ _
   | exact spec_CanUnwind.mono _ _ _
   | exact spec_FewestForOrder.mono _ _
   | exact spec_UnwindOrder.mono _ _
   | exact LeO.none _
   | refine LeO.ite ?_ ?_
   | refine LeO.bind ?_ (fun _ => ?_)
  ·intro y0 y1 y2 y3 y4 y5 y6
   unfold laws_FnUnwound.l4
   repeat' first
   | (with_reducible exact ih0 _ _ _ _ _ _ _)
   | (with_reducible exact ih1 _ _ _ _ _)
   | (with_reducible exact ih2 _ _ _ _ _ _ _)
   | (with_reducible exact ih3 _ _ _ _ _ _ _ _)
   | (with_reducible exact ih4 _ _ _ _ _)
   | (with_reducible exact ih5 _ _ _ _ _)
   | (with_reducible exact ih6 _ _ _ _ _ _)
   | (with_reducible exact ih7 _ _ _ _ _ _ _)
   | (with_reducible exact impl_CanUnwind.mono _ _ _)
   | (with_reducible exact impl_FewestForOrder.mono _ _)
   | (with_reducible exact impl_UnwindOrder.mono _ _)
   | (with_reducible exact spec_A2Order.mono _ _ _)
   | (with_reducible exact spec_A2Same.mono _ _ _)
   | (with_reducible exact spec_CanUnwind.mono _ _ _)
   | (with_reducible exact spec_FewestForOrder.mono _ _)
   | (with_reducible exact spec_UnwindOrder.mono _ _)
   | (with_reducible exact LeO.refl _)
   | (with_reducible exact LeO.none _)
   | (with_reducible refine LeO.ite ?_ ?_)
   | (with_reducible refine LeO.bind ?_ (fun _ => ?_))
   | (with_reducible refine allG_mono _ (fun _ => ?_))
   | (with_reducible refine idxG_mono _ (fun _ => ?_))
   | exact ih0 _ _ _ _ _ _ _
   | exact ih1 _ _ _ _ _
   | exact ih2 _ _ _ _ _ _ _
   | exact ih3 _ _ _ _ _ _ _ _
   | exact ih4 _ _ _ _ _
   | exact ih5 _ _ _ _ _
   | exact ih6 _ _ _ _ _ _
   | exact ih7 _ _ _ _ _ _ _
   | exact impl_CanUnwind.mono _ _ _
   | exact impl_FewestForOrder.mono _ _
   | exact impl_UnwindOrder.mono _ _
   | exact spec_A2Order.mono _ _ _
   | exact spec_A2Same.mono _ _ _
   | exact spec_CanUnwind.mono _ _ _
   | exact spec_FewestForOrder.mono _ _
   | exact spec_UnwindOrder.mono _ _
   | exact LeO.none _
   | refine LeO.ite ?_ ?_
   | refine LeO.bind ?_ (fun _ => ?_)
theorem laws_FnUnwound.mono : ∀ a0 a1 k, LeO (laws_FnUnwound.f k a0 a1) (laws_FnUnwound.f (k + 1) a0 a1) := by
 intro a0 a1 k
 obtain ⟨ih0, ih1, ih2, ih3, ih4, ih5, ih6, ih7⟩ := laws_FnUnwound.mono_l k
 unfold laws_FnUnwound.f
 repeat' first
   | (with_reducible exact ih0 _ _ _ _ _ _ _)
   | (with_reducible exact ih1 _ _ _ _ _)
   | (with_reducible exact ih2 _ _ _ _ _ _ _)
   | (with_reducible exact ih3 _ _ _ _ _ _ _ _)
   | (with_reducible exact ih4 _ _ _ _ _)
   | (with_reducible exact ih5 _ _ _ _ _)
   | (with_reducible exact ih6 _ _ _ _ _ _)
   | (with_reducible exact ih7 _ _ _ _ _ _ _)
   | (with_reducible exact impl_CanUnwind.mono _ _ _)
   | (with_reducible exact impl_FewestForOrder.mono _ _)
   | (with_reducible exact impl_UnwindOrder.mono _ _)
   | (with_reducible exact spec_A2Order.mono _ _ _)
   | (with_reducible exact spec_A2Same.mono _ _ _)
   | (with_reducible exact spec_CanUnwind.mono _ _ _)
   | (with_reducible exact spec_FewestForOrder.mono _ _)
   | (with_reducible exact spec_UnwindOrder.mono _ _)
   | (with_reducible exact LeO.refl _)
   | (with_reducible exact LeO.none _)
   | (with_reducible refine LeO.ite ?_ ?_)
   | (with_reducible refine LeO.bind ?_ (fun _ => ?_))
   | (with_reducible refine allG_mono _ (fun _ => ?_))
   | (with_reducible refine idxG_mono _ (fun _ => ?_))
   | exact ih0 _ _ _ _ _ _ _
   | exact ih1 _ _ _ _ _
   | exact ih2 _ _ _ _ _ _ _
   | exact ih3 _ _ _ _ _ _ _ _
   | exact ih4 _ _ _ _ _
   | exact ih5 _ _ _ _ _
   | exact ih6 _ _ _ _ _ _
   | exact ih7 _ _ _ _ _ _ _
   | exact impl_CanUnwind.mono _ _ _
   | exact impl_FewestForOrder.mono _ _
   | exact impl_UnwindOrder.mono _ _
   | exact spec_A2Order.mono _ _ _
   | exact spec_A2Same.mono _ _ _
   | exact spec_CanUnwind.mono _ _ _
   | exact spec_FewestForOrder.mono _ _
   | exact spec_UnwindOrder.mono _ _
   | exact LeO.none _
   | refine LeO.ite ?_ ?_
   | refine LeO.bind ?_ (fun _ => ?_)
def laws_FnUnwound.T24 : Bool × List (List Nat × List Nat) := (true, [([], []), ([], []), ([0, 1], [0, 1]), ([2], [2]), ([], []), ([], []), ([4, 5], [4, 5]), ([6], [6]), ([3, 7], [3, 7])])
def laws_FnUnwound.B24 : List Nat := [0, 0, 3, 7, 0, 0, 48, 112, 255]
theorem laws_FnUnwound.tab24 : rtab .any (opsOf Try.f3 24) = laws_FnUnwound.T24 := by kernel_rfl
theorem laws_FnUnwound.bits24 : waitsOk laws_FnUnwound.T24.2 laws_FnUnwound.B24 = true := by kernel_rfl
def laws_FnUnwound.T25 : Bool × List (List Nat × List Nat) := (true, [([], []), ([], []), ([], []), ([], []), ([2, 3], [2, 3]), ([4], [4]), ([], []), ([], []), ([6, 7], [6, 7]), ([8], [8]), ([9], [9]), ([5, 10], [5, 10]), ([0, 1, 0, 1, 2, 3, 4, 5, 6, 7, 8, 9, 10, 11], [0, 1]), ([12, 11, 0, 1, 2, 3, 4, 5, 6, 7, 8, 9, 10, 11], [11, 12])])
def laws_FnUnwound.B25 : List Nat := [0, 0, 0, 0, 12, 28, 0, 0, 192, 448, 960, 2044, 4095, 8191]
theorem laws_FnUnwound.tab25 : rtab .any (opsOf Try.f3 25) = laws_FnUnwound.T25 := by kernel_rfl
theorem laws_FnUnwound.bits25 : waitsOk laws_FnUnwound.T25.2 laws_FnUnwound.B25 = true := by kernel_rfl
def laws_FnUnwound.T45 : Bool × List (List Nat × List Nat) := (true, [([], []), ([0], [0]), ([1], [1]), ([1], [1]), ([1], [1]), ([3, 4, 1], [1, 3, 4]), ([5, 1], [1, 5]), ([2, 6, 1], [1, 2, 6]), ([7, 1], [1, 7]), ([1], [1]), ([1], [1]), ([1], [1]), ([10, 11, 1], [1, 10, 11]), ([12, 1], [1, 12]), ([9, 13, 1], [1, 9, 13]), ([14, 1], [1, 14]), ([8, 15, 1], [1, 8, 15]), ([16, 1, 1], [1, 16]), ([17], [17]), ([17], [17]), ([18, 19, 17], [17, 18, 19]), ([20, 17], [17, 20]), ([17], [17]), ([17], [17]), ([22, 23, 17], [17, 22, 23]), ([24, 17], [17, 24]), ([21, 25, 17], [17, 21, 25]), ([17, 26, 1], [1, 17, 26]), ([1, 27], [1, 27]), ([28, 17, 0, 1, 2, 3, 4, 5, 6, 7, 8, 9, 10, 11, 12, 13, 14, 15, 16, 17, 18, 19, 20, 21, 22, 23, 24, 25, 26, 27, 28], [0, 28])])
def laws_FnUnwound.B45 : List Nat := [0, 1, 3, 3, 3, 27, 59, 127, 255, 3, 3, 3, 3075, 7171, 15875, 32259, 65535, 131071, 262143, 262143, 1048575, 2097151, 262143, 262143, 12845055, 29622271, 67108863, 134217727, 268435455, 536870911]
theorem laws_FnUnwound.tab45 : rtab .any (opsOf Try.f3 45) = laws_FnUnwound.T45 := by kernel_rfl
theorem laws_FnUnwound.bits45 : waitsOk laws_FnUnwound.T45.2 laws_FnUnwound.B45 = true := by kernel_rfl
set_option maxHeartbeats 8000000 in
set_option maxRecDepth 100000 in
theorem laws_FnUnwound.calls (k : Nat) (A0 : Option Addr) (c0 : Nat) (l0 : List Int) (A1 : Option Addr) (c1 : Nat) (l1 : List Int) (r : Bool) (w : World) (hr0 : Kd.C (Kd.int .u8) w A0 l0.length l0) (hc0 : l0.length ≤ c0) (hr1 : Kd.C (Kd.int .u8) w A1 l1.length l1) (hc1 : l1.length ≤ c1) (h : laws_FnUnwound.f k l0 l1 = some r) :
  Calls Try.prog 3 #[.slice A0 l0.length c0, .slice A1 l1.length c1] w fun e w' => e = .returned (.bool r) ∧ Below w.heap.size w w' := by
 have HR0 := Aside0.mk hr0
 have HC0 := Aside0.mk hc0
 clear hr0 hc0
 have HR1 := Aside0.mk hr1
 have HC1 := Aside0.mk hc1
 clear hr1 hc1
 have HB := Aside0.mk (Below.refl w.heap.size w)
 have H : ((laws_a2Long.f l0 l1).bind fun t258 => (if t258 = true then (some true) else ((laws_a2At.f l0 0 9).bind fun t259 => ((spec_A2Order.f k l1 t259).bind fun t260 => ((impl_FewestForOrder.f k t260).bind fun bt263 => ((spec_FewestForOrder.f k t260).bind fun bt268 => ((impl_CanUnwind.f k bt268.1 t260).bind fun bt273 => ((impl_UnwindOrder.f k bt268.1).bind fun bt275 => ((spec_UnwindOrder.f k bt268.1).bind fun bt279 => (if bt263.2.2 = bt268.2.2 then (if bt263.2.2 = 0 then ((spec_A2Same.f k bt263.1 bt268.1).bind fun t283 => (if t283 = true then (if bt263.2.1 = bt268.2.1 then (if (bt268.1.length : Int) = t259 then (if bt273.2 = 0 then (if bt273.1 = true then (if bt275.2 = bt279.2 then (if bt275.2 = 0 then ((spec_A2Same.f k bt275.1 bt279.1).bind fun t284 => (if t284 = true then (if (bt279.1.length : Int) = t259 then (laws_FnUnwound.j0 k l0 t259 t260 bt268.1 bt268.2.1 bt279.1 ((bt268.2.1 == 0) != (t259 == 0))) else (laws_FnUnwound.j0 k l0 t259 t260 bt268.1 bt268.2.1 bt279.1 true)) else (laws_FnUnwound.j0 k l0 t259 t260 bt268.1 bt268.2.1 bt279.1 true))) else (laws_FnUnwound.j0 k l0 t259 t260 bt268.1 bt268.2.1 bt279.1 true)) else (laws_FnUnwound.j0 k l0 t259 t260 bt268.1 bt268.2.1 bt279.1 true)) else (laws_FnUnwound.j0 k l0 t259 t260 bt268.1 bt268.2.1 bt279.1 true)) else (laws_FnUnwound.j0 k l0 t259 t260 bt268.1 bt268.2.1 bt279.1 true)) else (laws_FnUnwound.j0 k l0 t259 t260 bt268.1 bt268.2.1 bt279.1 true)) else (laws_FnUnwound.j0 k l0 t259 t260 bt268.1 bt268.2.1 bt279.1 true)) else (laws_FnUnwound.j0 k l0 t259 t260 bt268.1 bt268.2.1 bt279.1 true))) else (laws_FnUnwound.j0 k l0 t259 t260 bt268.1 bt268.2.1 bt279.1 true)) else (laws_FnUnwound.j0 k l0 t259 t260 bt268.1 bt268.2.1 bt279.1 true))))))))))) = some r := h
 clear h
 replace H := Option.bind_eq_some_iff.mp H
 obtain ⟨t258, A30, H⟩ := H
 replace H : (if t258 = true then (some true) else ((laws_a2At.f l0 0 9).bind fun t259 => ((spec_A2Order.f k l1 t259).bind fun t260 => ((impl_FewestForOrder.f k t260).bind fun bt263 => ((spec_FewestForOrder.f k t260).bind fun bt268 => ((impl_CanUnwind.f k bt268.1 t260).bind fun bt273 => ((impl_UnwindOrder.f k bt268.1).bind fun bt275 => ((spec_UnwindOrder.f k bt268.1).bind fun bt279 => (if bt263.2.2 = bt268.2.2 then (if bt263.2.2 = 0 then ((spec_A2Same.f k bt263.1 bt268.1).bind fun t283 => (if t283 = true then (if bt263.2.1 = bt268.2.1 then (if (bt268.1.length : Int) = t259 then (if bt273.2 = 0 then (if bt273.1 = true then (if bt275.2 = bt279.2 then (if bt275.2 = 0 then ((spec_A2Same.f k bt275.1 bt279.1).bind fun t284 => (if t284 = true then (if (bt279.1.length : Int) = t259 then (laws_FnUnwound.j0 k l0 t259 t260 bt268.1 bt268.2.1 bt279.1 ((bt268.2.1 == 0) != (t259 == 0))) else (laws_FnUnwound.j0 k l0 t259 t260 bt268.1 bt268.2.1 bt279.1 true)) else (laws_FnUnwound.j0 k l0 t259 t260 bt268.1 bt268.2.1 bt279.1 true))) else (laws_FnUnwound.j0 k l0 t259 t260 bt268.1 bt268.2.1 bt279.1 true)) else (laws_FnUnwound.j0 k l0 t259 t260 bt268.1 bt268.2.1 bt279.1 true)) else (laws_FnUnwound.j0 k l0 t259 t260 bt268.1 bt268.2.1 bt279.1 true)) else (laws_FnUnwound.j0 k l0 t259 t260 bt268.1 bt268.2.1 bt279.1 true)) else (laws_FnUnwound.j0 k l0 t259 t260 bt268.1 bt268.2.1 bt279.1 true)) else (laws_FnUnwound.j0 k l0 t259 t260 bt268.1 bt268.2.1 bt279.1 true)) else (laws_FnUnwound.j0 k l0 t259 t260 bt268.1 bt268.2.1 bt279.1 true))) else (laws_FnUnwound.j0 k l0 t259 t260 bt268.1 bt268.2.1 bt279.1 true)) else (laws_FnUnwound.j0 k l0 t259 t260 bt268.1 bt268.2.1 bt279.1 true)))))))))) = some r := H
 have A3 := Aside0.mk A30
 clear A30
 by_cases c4 : t258 = true
 ·subst c4
  have H1 : (some true) = some r := by rw [if_pos rfl] at H; exact H
  clear H
  have H := H1
  clear H1
  obtain rfl := Option.some.inj H
  go_enter Try.func3, Try.ntmps3
  go_wp2_with (first | ((with_reducible refine gate_callee (f := 11) rfl ?_); refine goesL_ (some 36) rfl rfl Try.func11 (by kernel_rfl) rfl #[.slice A0 l0.length c0, .slice A1 l1.length c1] rfl (by (try simp only [List.map_toArray, List.map_cons, List.map_nil]); first | done | rfl | (simp only [List.length_drop, List.length_take]; rfl)) ?_; (with_reducible refine (laws_a2Long.calls _ _ l0 _ _ l1 true _ ?side1 ?side2 ?side3 ?side4 A3.out).mono ?_); (case side1 => repeat (first | exact HR0.out | (with_reducible refine Kd.C_alloc ?_ _) | (with_reducible refine Kd.C_drewN ?_ _) | (with_reducible refine Kd.C_drew ?_))); (case side2 => exact HC0.out); (case side3 => repeat (first | exact HR1.out | (with_reducible refine Kd.C_alloc ?_ _) | (with_reducible refine Kd.C_drewN ?_ _) | (with_reducible refine Kd.C_drew ?_))); (case side4 => exact HC1.out); rintro e w' ⟨rfl, ⟨nd, rfl⟩⟩; refine ⟨_, rfl, ?_⟩))
  go_ret
  exact ⟨by first | rfl | (simp [errW_none, errW_some] <;> rfl) | (simp [*, errW_none, errW_some] <;> rfl), by repeat (first | (with_reducible first | exact HB.out | apply below_alloc | apply pw_below_drewN | apply below_drew1) | exact HB.out)⟩
 ·replace c4 := Bool.eq_false_iff.mpr c4
  subst c4
  have H1 : ((laws_a2At.f l0 0 9).bind fun t259 => ((spec_A2Order.f k l1 t259).bind fun t260 => ((impl_FewestForOrder.f k t260).bind fun bt263 => ((spec_FewestForOrder.f k t260).bind fun bt268 => ((impl_CanUnwind.f k bt268.1 t260).bind fun bt273 => ((impl_UnwindOrder.f k bt268.1).bind fun bt275 => ((spec_UnwindOrder.f k bt268.1).bind fun bt279 => (if bt263.2.2 = bt268.2.2 then (if bt263.2.2 = 0 then ((spec_A2Same.f k bt263.1 bt268.1).bind fun t283 => (if t283 = true then (if bt263.2.1 = bt268.2.1 then (if (bt268.1.length : Int) = t259 then (if bt273.2 = 0 then (if bt273.1 = true then (if bt275.2 = bt279.2 then (if bt275.2 = 0 then ((spec_A2Same.f k bt275.1 bt279.1).bind fun t284 => (if t284 = true then (if (bt279.1.length : Int) = t259 then (laws_FnUnwound.j0 k l0 t259 t260 bt268.1 bt268.2.1 bt279.1 ((bt268.2.1 == 0) != (t259 == 0))) else (laws_FnUnwound.j0 k l0 t259 t260 bt268.1 bt268.2.1 bt279.1 true)) else (laws_FnUnwound.j0 k l0 t259 t260 bt268.1 bt268.2.1 bt279.1 true))) else (laws_FnUnwound.j0 k l0 t259 t260 bt268.1 bt268.2.1 bt279.1 true)) else (laws_FnUnwound.j0 k l0 t259 t260 bt268.1 bt268.2.1 bt279.1 true)) else (laws_FnUnwound.j0 k l0 t259 t260 bt268.1 bt268.2.1 bt279.1 true)) else (laws_FnUnwound.j0 k l0 t259 t260 bt268.1 bt268.2.1 bt279.1 true)) else (laws_FnUnwound.j0 k l0 t259 t260 bt268.1 bt268.2.1 bt279.1 true)) else (laws_FnUnwound.j0 k l0 t259 t260 bt268.1 bt268.2.1 bt279.1 true)) else (laws_FnUnwound.j0 k l0 t259 t260 bt268.1 bt268.2.1 bt279.1 true))) else (laws_FnUnwound.j0 k l0 t259 t260 bt268.1 bt268.2.1 bt279.1 true)) else (laws_FnUnwound.j0 k l0 t259 t260 bt268.1 bt268.2.1 bt279.1 true))))))))) = some r := by rw [if_neg (show ¬ (false = true) by decide)] at H; exact H
  clear H
  have H := H1
  clear H1
  replace H := Option.bind_eq_some_iff.mp H
  obtain ⟨t259, A50, H⟩ := H
  replace H : ((spec_A2Order.f k l1 t259).bind fun t260 => ((impl_FewestForOrder.f k t260).bind fun bt263 => ((spec_FewestForOrder.f k t260).bind fun bt268 => ((impl_CanUnwind.f k bt268.1 t260).bind fun bt273 => ((impl_UnwindOrder.f k bt268.1).bind fun bt275 => ((spec_UnwindOrder.f k bt268.1).bind fun bt279 => (if bt263.2.2 = bt268.2.2 then (if bt263.2.2 = 0 then ((spec_A2Same.f k bt263.1 bt268.1).bind fun t283 => (if t283 = true then (if bt263.2.1 = bt268.2.1 then (if (bt268.1.length : Int) = t259 then (if bt273.2 = 0 then (if bt273.1 = true then (if bt275.2 = bt279.2 then (if bt275.2 = 0 then ((spec_A2Same.f k bt275.1 bt279.1).bind fun t284 => (if t284 = true then (if (bt279.1.length : Int) = t259 then (laws_FnUnwound.j0 k l0 t259 t260 bt268.1 bt268.2.1 bt279.1 ((bt268.2.1 == 0) != (t259 == 0))) else (laws_FnUnwound.j0 k l0 t259 t260 bt268.1 bt268.2.1 bt279.1 true)) else (laws_FnUnwound.j0 k l0 t259 t260 bt268.1 bt268.2.1 bt279.1 true))) else (laws_FnUnwound.j0 k l0 t259 t260 bt268.1 bt268.2.1 bt279.1 true)) else (laws_FnUnwound.j0 k l0 t259 t260 bt268.1 bt268.2.1 bt279.1 true)) else (laws_FnUnwound.j0 k l0 t259 t260 bt268.1 bt268.2.1 bt279.1 true)) else (laws_FnUnwound.j0 k l0 t259 t260 bt268.1 bt268.2.1 bt279.1 true)) else (laws_FnUnwound.j0 k l0 t259 t260 bt268.1 bt268.2.1 bt279.1 true)) else (laws_FnUnwound.j0 k l0 t259 t260 bt268.1 bt268.2.1 bt279.1 true)) else (laws_FnUnwound.j0 k l0 t259 t260 bt268.1 bt268.2.1 bt279.1 true))) else (laws_FnUnwound.j0 k l0 t259 t260 bt268.1 bt268.2.1 bt279.1 true)) else (laws_FnUnwound.j0 k l0 t259 t260 bt268.1 bt268.2.1 bt279.1 true)))))))) = some r := H
  have A5 := Aside0.mk A50
  clear A50
  replace H := Option.bind_eq_some_iff.mp H
  obtain ⟨t260, A60, H⟩ := H
  replace H : ((impl_FewestForOrder.f k t260).bind fun bt263 => ((spec_FewestForOrder.f k t260).bind fun bt268 => ((impl_CanUnwind.f k bt268.1 t260).bind fun bt273 => ((impl_UnwindOrder.f k bt268.1).bind fun bt275 => ((spec_UnwindOrder.f k bt268.1).bind fun bt279 => (if bt263.2.2 = bt268.2.2 then (if bt263.2.2 = 0 then ((spec_A2Same.f k bt263.1 bt268.1).bind fun t283 => (if t283 = true then (if bt263.2.1 = bt268.2.1 then (if (bt268.1.length : Int) = t259 then (if bt273.2 = 0 then (if bt273.1 = true then (if bt275.2 = bt279.2 then (if bt275.2 = 0 then ((spec_A2Same.f k bt275.1 bt279.1).bind fun t284 => (if t284 = true then (if (bt279.1.length : Int) = t259 then (laws_FnUnwound.j0 k l0 t259 t260 bt268.1 bt268.2.1 bt279.1 ((bt268.2.1 == 0) != (t259 == 0))) else (laws_FnUnwound.j0 k l0 t259 t260 bt268.1 bt268.2.1 bt279.1 true)) else (laws_FnUnwound.j0 k l0 t259 t260 bt268.1 bt268.2.1 bt279.1 true))) else (laws_FnUnwound.j0 k l0 t259 t260 bt268.1 bt268.2.1 bt279.1 true)) else (laws_FnUnwound.j0 k l0 t259 t260 bt268.1 bt268.2.1 bt279.1 true)) else (laws_FnUnwound.j0 k l0 t259 t260 bt268.1 bt268.2.1 bt279.1 true)) else (laws_FnUnwound.j0 k l0 t259 t260 bt268.1 bt268.2.1 bt279.1 true)) else (laws_FnUnwound.j0 k l0 t259 t260 bt268.1 bt268.2.1 bt279.1 true)) else (laws_FnUnwound.j0 k l0 t259 t260 bt268.1 bt268.2.1 bt279.1 true)) else (laws_FnUnwound.j0 k l0 t259 t260 bt268.1 bt268.2.1 bt279.1 true))) else (laws_FnUnwound.j0 k l0 t259 t260 bt268.1 bt268.2.1 bt279.1 true)) else (laws_FnUnwound.j0 k l0 t259 t260 bt268.1 bt268.2.1 bt279.1 true))))))) = some r := H
  have A6 := Aside0.mk A60
  clear A60
  replace H := Option.bind_eq_some_iff.mp H
  obtain ⟨⟨t263, t264, t265⟩, A70, H⟩ := H
  replace H : ((spec_FewestForOrder.f k t260).bind fun bt268 => ((impl_CanUnwind.f k bt268.1 t260).bind fun bt273 => ((impl_UnwindOrder.f k bt268.1).bind fun bt275 => ((spec_UnwindOrder.f k bt268.1).bind fun bt279 => (if t265 = bt268.2.2 then (if t265 = 0 then ((spec_A2Same.f k t263 bt268.1).bind fun t283 => (if t283 = true then (if t264 = bt268.2.1 then (if (bt268.1.length : Int) = t259 then (if bt273.2 = 0 then (if bt273.1 = true then (if bt275.2 = bt279.2 then (if bt275.2 = 0 then ((spec_A2Same.f k bt275.1 bt279.1).bind fun t284 => (if t284 = true then (if (bt279.1.length : Int) = t259 then (laws_FnUnwound.j0 k l0 t259 t260 bt268.1 bt268.2.1 bt279.1 ((bt268.2.1 == 0) != (t259 == 0))) else (laws_FnUnwound.j0 k l0 t259 t260 bt268.1 bt268.2.1 bt279.1 true)) else (laws_FnUnwound.j0 k l0 t259 t260 bt268.1 bt268.2.1 bt279.1 true))) else (laws_FnUnwound.j0 k l0 t259 t260 bt268.1 bt268.2.1 bt279.1 true)) else (laws_FnUnwound.j0 k l0 t259 t260 bt268.1 bt268.2.1 bt279.1 true)) else (laws_FnUnwound.j0 k l0 t259 t260 bt268.1 bt268.2.1 bt279.1 true)) else (laws_FnUnwound.j0 k l0 t259 t260 bt268.1 bt268.2.1 bt279.1 true)) else (laws_FnUnwound.j0 k l0 t259 t260 bt268.1 bt268.2.1 bt279.1 true)) else (laws_FnUnwound.j0 k l0 t259 t260 bt268.1 bt268.2.1 bt279.1 true)) else (laws_FnUnwound.j0 k l0 t259 t260 bt268.1 bt268.2.1 bt279.1 true))) else (laws_FnUnwound.j0 k l0 t259 t260 bt268.1 bt268.2.1 bt279.1 true)) else (laws_FnUnwound.j0 k l0 t259 t260 bt268.1 bt268.2.1 bt279.1 true)))))) = some r := H
  have A7 := Aside0.mk A70
  clear A70
  replace H := Option.bind_eq_some_iff.mp H
  obtain ⟨⟨t268, t269, t270⟩, A80, H⟩ := H
  replace H : ((impl_CanUnwind.f k t268 t260).bind fun bt273 => ((impl_UnwindOrder.f k t268).bind fun bt275 => ((spec_UnwindOrder.f k t268).bind fun bt279 => (if t265 = t270 then (if t265 = 0 then ((spec_A2Same.f k t263 t268).bind fun t283 => (if t283 = true then (if t264 = t269 then (if (t268.length : Int) = t259 then (if bt273.2 = 0 then (if bt273.1 = true then (if bt275.2 = bt279.2 then (if bt275.2 = 0 then ((spec_A2Same.f k bt275.1 bt279.1).bind fun t284 => (if t284 = true then (if (bt279.1.length : Int) = t259 then (laws_FnUnwound.j0 k l0 t259 t260 t268 t269 bt279.1 ((t269 == 0) != (t259 == 0))) else (laws_FnUnwound.j0 k l0 t259 t260 t268 t269 bt279.1 true)) else (laws_FnUnwound.j0 k l0 t259 t260 t268 t269 bt279.1 true))) else (laws_FnUnwound.j0 k l0 t259 t260 t268 t269 bt279.1 true)) else (laws_FnUnwound.j0 k l0 t259 t260 t268 t269 bt279.1 true)) else (laws_FnUnwound.j0 k l0 t259 t260 t268 t269 bt279.1 true)) else (laws_FnUnwound.j0 k l0 t259 t260 t268 t269 bt279.1 true)) else (laws_FnUnwound.j0 k l0 t259 t260 t268 t269 bt279.1 true)) else (laws_FnUnwound.j0 k l0 t259 t260 t268 t269 bt279.1 true)) else (laws_FnUnwound.j0 k l0 t259 t260 t268 t269 bt279.1 true))) else (laws_FnUnwound.j0 k l0 t259 t260 t268 t269 bt279.1 true)) else (laws_FnUnwound.j0 k l0 t259 t260 t268 t269 bt279.1 true))))) = some r := H
  have A8 := Aside0.mk A80
  clear A80
  replace H := Option.bind_eq_some_iff.mp H
  obtain ⟨⟨t273, t274⟩, A90, H⟩ := H
  replace H : ((impl_UnwindOrder.f k t268).bind fun bt275 => ((spec_UnwindOrder.f k t268).bind fun bt279 => (if t265 = t270 then (if t265 = 0 then ((spec_A2Same.f k t263 t268).bind fun t283 => (if t283 = true then (if t264 = t269 then (if (t268.length : Int) = t259 then (if t274 = 0 then (if t273 = true then (if bt275.2 = bt279.2 then (if bt275.2 = 0 then ((spec_A2Same.f k bt275.1 bt279.1).bind fun t284 => (if t284 = true then (if (bt279.1.length : Int) = t259 then (laws_FnUnwound.j0 k l0 t259 t260 t268 t269 bt279.1 ((t269 == 0) != (t259 == 0))) else (laws_FnUnwound.j0 k l0 t259 t260 t268 t269 bt279.1 true)) else (laws_FnUnwound.j0 k l0 t259 t260 t268 t269 bt279.1 true))) else (laws_FnUnwound.j0 k l0 t259 t260 t268 t269 bt279.1 true)) else (laws_FnUnwound.j0 k l0 t259 t260 t268 t269 bt279.1 true)) else (laws_FnUnwound.j0 k l0 t259 t260 t268 t269 bt279.1 true)) else (laws_FnUnwound.j0 k l0 t259 t260 t268 t269 bt279.1 true)) else (laws_FnUnwound.j0 k l0 t259 t260 t268 t269 bt279.1 true)) else (laws_FnUnwound.j0 k l0 t259 t260 t268 t269 bt279.1 true)) else (laws_FnUnwound.j0 k l0 t259 t260 t268 t269 bt279.1 true))) else (laws_FnUnwound.j0 k l0 t259 t260 t268 t269 bt279.1 true)) else (laws_FnUnwound.j0 k l0 t259 t260 t268 t269 bt279.1 true)))) = some r := H
  have A9 := Aside0.mk A90
  clear A90
  replace H := Option.bind_eq_some_iff.mp H
  obtain ⟨⟨t275, t276⟩, A100, H⟩ := H
  replace H : ((spec_UnwindOrder.f k t268).bind fun bt279 => (if t265 = t270 then (if t265 = 0 then ((spec_A2Same.f k t263 t268).bind fun t283 => (if t283 = true then (if t264 = t269 then (if (t268.length : Int) = t259 then (if t274 = 0 then (if t273 = true then (if t276 = bt279.2 then (if t276 = 0 then ((spec_A2Same.f k t275 bt279.1).bind fun t284 => (if t284 = true then (if (bt279.1.length : Int) = t259 then (laws_FnUnwound.j0 k l0 t259 t260 t268 t269 bt279.1 ((t269 == 0) != (t259 == 0))) else (laws_FnUnwound.j0 k l0 t259 t260 t268 t269 bt279.1 true)) else (laws_FnUnwound.j0 k l0 t259 t260 t268 t269 bt279.1 true))) else (laws_FnUnwound.j0 k l0 t259 t260 t268 t269 bt279.1 true)) else (laws_FnUnwound.j0 k l0 t259 t260 t268 t269 bt279.1 true)) else (laws_FnUnwound.j0 k l0 t259 t260 t268 t269 bt279.1 true)) else (laws_FnUnwound.j0 k l0 t259 t260 t268 t269 bt279.1 true)) else (laws_FnUnwound.j0 k l0 t259 t260 t268 t269 bt279.1 true)) else (laws_FnUnwound.j0 k l0 t259 t260 t268 t269 bt279.1 true)) else (laws_FnUnwound.j0 k l0 t259 t260 t268 t269 bt279.1 true))) else (laws_FnUnwound.j0 k l0 t259 t260 t268 t269 bt279.1 true)) else (laws_FnUnwound.j0 k l0 t259 t260 t268 t269 bt279.1 true))) = some r := H
  have A10 := Aside0.mk A100
  clear A100
  replace H := Option.bind_eq_some_iff.mp H
  obtain ⟨⟨t279, t280⟩, A110, H⟩ := H
  replace H : (if t265 = t270 then (if t265 = 0 then ((spec_A2Same.f k t263 t268).bind fun t283 => (if t283 = true then (if t264 = t269 then (if (t268.length : Int) = t259 then (if t274 = 0 then (if t273 = true then (if t276 = t280 then (if t276 = 0 then ((spec_A2Same.f k t275 t279).bind fun t284 => (if t284 = true then (if (t279.length : Int) = t259 then (laws_FnUnwound.j0 k l0 t259 t260 t268 t269 t279 ((t269 == 0) != (t259 == 0))) else (laws_FnUnwound.j0 k l0 t259 t260 t268 t269 t279 true)) else (laws_FnUnwound.j0 k l0 t259 t260 t268 t269 t279 true))) else (laws_FnUnwound.j0 k l0 t259 t260 t268 t269 t279 true)) else (laws_FnUnwound.j0 k l0 t259 t260 t268 t269 t279 true)) else (laws_FnUnwound.j0 k l0 t259 t260 t268 t269 t279 true)) else (laws_FnUnwound.j0 k l0 t259 t260 t268 t269 t279 true)) else (laws_FnUnwound.j0 k l0 t259 t260 t268 t269 t279 true)) else (laws_FnUnwound.j0 k l0 t259 t260 t268 t269 t279 true)) else (laws_FnUnwound.j0 k l0 t259 t260 t268 t269 t279 true))) else (laws_FnUnwound.j0 k l0 t259 t260 t268 t269 t279 true)) else (laws_FnUnwound.j0 k l0 t259 t260 t268 t269 t279 true)) = some r := H
  have A11 := Aside0.mk A110
  clear A110
  have HC12 := Aside0.mk H
  clear H
  go_enter Try.func3, Try.ntmps3
  go_upto_region 10 with (first | ((with_reducible refine gate_callee (f := 11) rfl ?_); refine goesL_ (some 36) rfl rfl Try.func11 (by kernel_rfl) rfl #[.slice A0 l0.length c0, .slice A1 l1.length c1] rfl (by (try simp only [List.map_toArray, List.map_cons, List.map_nil]); first | done | rfl | (simp only [List.length_drop, List.length_take]; rfl)) ?_; (with_reducible refine (laws_a2Long.calls _ _ l0 _ _ l1 false _ ?side1 ?side2 ?side3 ?side4 A3.out).mono ?_); (case side1 => repeat (first | exact HR0.out | (with_reducible refine Kd.C_alloc ?_ _) | (with_reducible refine Kd.C_drewN ?_ _) | (with_reducible refine Kd.C_drew ?_))); (case side2 => exact HC0.out); (case side3 => repeat (first | exact HR1.out | (with_reducible refine Kd.C_alloc ?_ _) | (with_reducible refine Kd.C_drewN ?_ _) | (with_reducible refine Kd.C_drew ?_))); (case side4 => exact HC1.out); rintro e w' ⟨rfl, ⟨nd, rfl⟩⟩; refine ⟨_, rfl, ?_⟩) | ((with_reducible refine gate_callee (f := 12) rfl ?_); refine goesL_ (some 38) rfl rfl Try.func12 (by kernel_rfl) rfl #[.slice A0 l0.length c0, .int .i64 0, .int .i64 9] rfl (by (try simp only [List.map_toArray, List.map_cons, List.map_nil]); first | done | rfl | (simp only [List.length_drop, List.length_take]; rfl)) ?_; (with_reducible refine (laws_a2At.calls _ _ l0 0 9 t259 _ ?side1 ?side2 A5.out).mono ?_); (case side1 => repeat (first | exact HR0.out | (with_reducible refine Kd.C_alloc ?_ _) | (with_reducible refine Kd.C_drewN ?_ _) | (with_reducible refine Kd.C_drew ?_))); (case side2 => exact HC0.out); rintro e w' ⟨rfl, ⟨nd, rfl⟩⟩; refine ⟨_, rfl, ?_⟩) | ((with_reducible refine gate_callee (f := 13) rfl ?_); refine goesL_ (some 41) rfl rfl Try.func13 (by kernel_rfl) rfl #[.slice A1 l1.length c1, .int .i64 t259] rfl (by (try simp only [List.map_toArray, List.map_cons, List.map_nil]); first | done | rfl | (simp only [List.length_drop, List.length_take]; rfl)) ?_; (with_reducible refine (spec_A2Order.calls k _ _ l1 t259 t260 _ ?side1 ?side2 A6.out).mono ?_); (case side1 => repeat (first | exact HR1.out | (with_reducible refine Kd.C_alloc ?_ _) | (with_reducible refine Kd.C_drewN ?_ _) | (with_reducible refine Kd.C_drew ?_))); (case side2 => exact HC1.out); rintro e w13 ⟨v261, rfl, ho0, hb⟩; refine ⟨_, rfl, ?_⟩; have n0_ := Aside0.mk (Kd.R_lower ho0 (below_size (by repeat (first | (with_reducible first | exact HB.out | apply below_alloc | apply pw_below_drewN | apply below_drew1) | exact HB.out)))); have n1_ := Aside0.mk (below_step (by repeat (first | (with_reducible first | exact HB.out | apply below_alloc | apply pw_below_drewN | apply below_drew1) | exact HB.out)) hb); clear HB; have HO262 := n0_; have HB := n1_; clear n0_ n1_; (try clear hb); (try clear hb2); (try clear hk); (try clear hi); (try clear ho0); obtain ⟨Ao14, co14, eo14⟩ := Kd.R_slice HO262.out; subst eo14) | ((with_reducible refine gate_callee (f := 14) rfl ?_); refine goesL_ (some 44) rfl rfl Try.func14 (by kernel_rfl) rfl #[.slice Ao14 t260.length co14] rfl (by (try simp only [List.map_toArray, List.map_cons, List.map_nil]); first | done | rfl | (simp only [List.length_drop, List.length_take]; rfl)) ?_; (with_reducible refine (impl_FewestForOrder.calls k _ _ t260 t263 t264 t265 _ ?side1 ?side2 A7.out).mono ?_); (case side1 => repeat (first | exact (Kd.R_reads' HO262.out).2.2 | (with_reducible refine Kd.C_alloc ?_ _) | (with_reducible refine Kd.C_drewN ?_ _) | (with_reducible refine Kd.C_drew ?_))); (case side2 => exact (Kd.R_reads' HO262.out).2.1); rintro e w15 ⟨v266, rfl, ho0, hb⟩; refine ⟨_, rfl, ?_⟩; have n0_ := Aside0.mk (Kd.R_elder' (by (with_reducible repeat (first | apply Kd.R_alloc | apply Kd.R_drewN | apply Kd.R_drew)); exact HO262.out) (Kd.R_base ho0) hb); have n1_ := Aside0.mk (Kd.R_lower (Kd.R_new' ho0 (Kd.R_lt (by (with_reducible repeat (first | apply Kd.R_alloc | apply Kd.R_drewN | apply Kd.R_drew)); exact HO262.out))) (below_size (by repeat (first | (with_reducible first | exact HB.out | apply below_alloc | apply pw_below_drewN | apply below_drew1) | exact HB.out)))); have n2_ := Aside0.mk (below_step (by repeat (first | (with_reducible first | exact HB.out | apply below_alloc | apply pw_below_drewN | apply below_drew1) | exact HB.out)) hb); clear HO262; clear HB; have HO262 := n0_; have HO267 := n1_; have HB := n2_; clear n0_ n1_ n2_; (try clear hb); (try clear hb2); (try clear hk); (try clear hi); (try clear ho0)) | ((with_reducible refine gate_callee (f := 15) rfl ?_); refine goesL_ (some 50) rfl rfl Try.func15 (by kernel_rfl) rfl #[.slice Ao14 t260.length co14] rfl (by (try simp only [List.map_toArray, List.map_cons, List.map_nil]); first | done | rfl | (simp only [List.length_drop, List.length_take]; rfl)) ?_; (with_reducible refine (spec_FewestForOrder.calls k _ _ t260 t268 t269 t270 _ ?side1 ?side2 A8.out).mono ?_); (case side1 => repeat (first | exact (Kd.R_reads' HO262.out).2.2 | (with_reducible refine Kd.C_alloc ?_ _) | (with_reducible refine Kd.C_drewN ?_ _) | (with_reducible refine Kd.C_drew ?_))); (case side2 => exact (Kd.R_reads' HO262.out).2.1); rintro e w16 ⟨v271, rfl, ho0, hb⟩; refine ⟨_, rfl, ?_⟩; have n0_ := Aside0.mk (Kd.R_elder' (by (with_reducible repeat (first | apply Kd.R_alloc | apply Kd.R_drewN | apply Kd.R_drew)); exact HO262.out) (Kd.R_base ho0) hb); have n1_ := Aside0.mk (Kd.R_elder' (by (with_reducible repeat (first | apply Kd.R_alloc | apply Kd.R_drewN | apply Kd.R_drew)); exact HO267.out) (Kd.R_base ho0) hb); have n2_ := Aside0.mk (Kd.R_lower (Kd.R_new' (Kd.R_new' ho0 (Kd.R_lt (by (with_reducible repeat (first | apply Kd.R_alloc | apply Kd.R_drewN | apply Kd.R_drew)); exact HO262.out))) (Kd.R_lt (by (with_reducible repeat (first | apply Kd.R_alloc | apply Kd.R_drewN | apply Kd.R_drew)); exact HO267.out))) (below_size (by repeat (first | (with_reducible first | exact HB.out | apply below_alloc | apply pw_below_drewN | apply below_drew1) | exact HB.out)))); have n3_ := Aside0.mk (below_step (by repeat (first | (with_reducible first | exact HB.out | apply below_alloc | apply pw_below_drewN | apply below_drew1) | exact HB.out)) hb); clear HO262; clear HO267; clear HB; have HO262 := n0_; have HO267 := n1_; have HO272 := n2_; have HB := n3_; clear n0_ n1_ n2_ n3_; (try clear hb); (try clear hb2); (try clear hk); (try clear hi); (try clear ho0); obtain ⟨Ao17, co17, eo17⟩ := Kd.R_slice HO272.out; subst eo17) | ((with_reducible refine gate_callee (f := 16) rfl ?_); refine goesL_ (some 57) rfl rfl Try.func16 (by kernel_rfl) rfl #[.slice Ao17 t268.length co17, .slice Ao14 t260.length co14] rfl (by (try simp only [List.map_toArray, List.map_cons, List.map_nil]); first | done | rfl | (simp only [List.length_drop, List.length_take]; rfl)) ?_; (with_reducible refine (impl_CanUnwind.calls k _ _ t268 _ _ t260 t273 t274 _ ?side1 ?side2 ?side3 ?side4 A9.out).mono ?_); (case side1 => repeat (first | exact (Kd.R_reads' HO272.out).2.2 | (with_reducible refine Kd.C_alloc ?_ _) | (with_reducible refine Kd.C_drewN ?_ _) | (with_reducible refine Kd.C_drew ?_))); (case side2 => exact (Kd.R_reads' HO272.out).2.1); (case side3 => repeat (first | exact (Kd.R_reads' HO262.out).2.2 | (with_reducible refine Kd.C_alloc ?_ _) | (with_reducible refine Kd.C_drewN ?_ _) | (with_reducible refine Kd.C_drew ?_))); (case side4 => exact (Kd.R_reads' HO262.out).2.1); rintro e w18 ⟨rfl, hb⟩; refine ⟨_, rfl, ?_⟩; have n0_ := Aside0.mk (Kd.R_below (by (with_reducible repeat (first | apply Kd.R_alloc | apply Kd.R_drewN | apply Kd.R_drew)); exact HO262.out) hb); have n1_ := Aside0.mk (Kd.R_below (by (with_reducible repeat (first | apply Kd.R_alloc | apply Kd.R_drewN | apply Kd.R_drew)); exact HO267.out) hb); have n2_ := Aside0.mk (Kd.R_below (by (with_reducible repeat (first | apply Kd.R_alloc | apply Kd.R_drewN | apply Kd.R_drew)); exact HO272.out) hb); have n3_ := Aside0.mk (below_step (by repeat (first | (with_reducible first | exact HB.out | apply below_alloc | apply pw_below_drewN | apply below_drew1) | exact HB.out)) hb); clear HO262; clear HO267; clear HO272; clear HB; have HO262 := n0_; have HO267 := n1_; have HO272 := n2_; have HB := n3_; clear n0_ n1_ n2_ n3_; (try clear hb); (try clear hb2); (try clear hk); (try clear hi)) | ((with_reducible refine gate_callee (f := 17) rfl ?_); refine goesL_ (some 62) rfl rfl Try.func17 (by kernel_rfl) rfl #[.slice Ao17 t268.length co17] rfl (by (try simp only [List.map_toArray, List.map_cons, List.map_nil]); first | done | rfl | (simp only [List.length_drop, List.length_take]; rfl)) ?_; (with_reducible refine (impl_UnwindOrder.calls k _ _ t268 t275 t276 _ ?side1 ?side2 A10.out).mono ?_); (case side1 => repeat (first | exact (Kd.R_reads' HO272.out).2.2 | (with_reducible refine Kd.C_alloc ?_ _) | (with_reducible refine Kd.C_drewN ?_ _) | (with_reducible refine Kd.C_drew ?_))); (case side2 => exact (Kd.R_reads' HO272.out).2.1); rintro e w19 ⟨v277, rfl, ho0, hb⟩; refine ⟨_, rfl, ?_⟩; have n0_ := Aside0.mk (Kd.R_elder' (by (with_reducible repeat (first | apply Kd.R_alloc | apply Kd.R_drewN | apply Kd.R_drew)); exact HO262.out) (Kd.R_base ho0) hb); have n1_ := Aside0.mk (Kd.R_elder' (by (with_reducible repeat (first | apply Kd.R_alloc | apply Kd.R_drewN | apply Kd.R_drew)); exact HO267.out) (Kd.R_base ho0) hb); have n2_ := Aside0.mk (Kd.R_elder' (by (with_reducible repeat (first | apply Kd.R_alloc | apply Kd.R_drewN | apply Kd.R_drew)); exact HO272.out) (Kd.R_base ho0) hb); have n3_ := Aside0.mk (Kd.R_lower (Kd.R_new' (Kd.R_new' (Kd.R_new' ho0 (Kd.R_lt (by (with_reducible repeat (first | apply Kd.R_alloc | apply Kd.R_drewN | apply Kd.R_drew)); exact HO262.out))) (Kd.R_lt (by (with_reducible repeat (first | apply Kd.R_alloc | apply Kd.R_drewN | apply Kd.R_drew)); exact HO267.out))) (Kd.R_lt (by (with_reducible repeat (first | apply Kd.R_alloc | apply Kd.R_drewN | apply Kd.R_drew)); exact HO272.out))) (below_size (by repeat (first | (with_reducible first | exact HB.out | apply below_alloc | apply pw_below_drewN | apply below_drew1) | exact HB.out)))); have n4_ := Aside0.mk (below_step (by repeat (first | (with_reducible first | exact HB.out | apply below_alloc | apply pw_below_drewN | apply below_drew1) | exact HB.out)) hb); clear HO262; clear HO267; clear HO272; clear HB; have HO262 := n0_; have HO267 := n1_; have HO272 := n2_; have HO278 := n3_; have HB := n4_; clear n0_ n1_ n2_ n3_ n4_; (try clear hb); (try clear hb2); (try clear hk); (try clear hi); (try clear ho0)) | ((with_reducible refine gate_callee (f := 18) rfl ?_); refine goesL_ (some 67) rfl rfl Try.func18 (by kernel_rfl) rfl #[.slice Ao17 t268.length co17] rfl (by (try simp only [List.map_toArray, List.map_cons, List.map_nil]); first | done | rfl | (simp only [List.length_drop, List.length_take]; rfl)) ?_; (with_reducible refine (spec_UnwindOrder.calls k _ _ t268 t279 t280 _ ?side1 ?side2 A11.out).mono ?_); (case side1 => repeat (first | exact (Kd.R_reads' HO272.out).2.2 | (with_reducible refine Kd.C_alloc ?_ _) | (with_reducible refine Kd.C_drewN ?_ _) | (with_reducible refine Kd.C_drew ?_))); (case side2 => exact (Kd.R_reads' HO272.out).2.1); rintro e w20 ⟨v281, rfl, ho0, hb⟩; refine ⟨_, rfl, ?_⟩; have n0_ := Aside0.mk (Kd.R_elder' (by (with_reducible repeat (first | apply Kd.R_alloc | apply Kd.R_drewN | apply Kd.R_drew)); exact HO262.out) (Kd.R_base ho0) hb); have n1_ := Aside0.mk (Kd.R_elder' (by (with_reducible repeat (first | apply Kd.R_alloc | apply Kd.R_drewN | apply Kd.R_drew)); exact HO267.out) (Kd.R_base ho0) hb); have n2_ := Aside0.mk (Kd.R_elder' (by (with_reducible repeat (first | apply Kd.R_alloc | apply Kd.R_drewN | apply Kd.R_drew)); exact HO272.out) (Kd.R_base ho0) hb); have n3_ := Aside0.mk (Kd.R_elder' (by (with_reducible repeat (first | apply Kd.R_alloc | apply Kd.R_drewN | apply Kd.R_drew)); exact HO278.out) (Kd.R_base ho0) hb); have n4_ := Aside0.mk (Kd.R_lower (Kd.R_new' (Kd.R_new' (Kd.R_new' (Kd.R_new' ho0 (Kd.R_lt (by (with_reducible repeat (first | apply Kd.R_alloc | apply Kd.R_drewN | apply Kd.R_drew)); exact HO262.out))) (Kd.R_lt (by (with_reducible repeat (first | apply Kd.R_alloc | apply Kd.R_drewN | apply Kd.R_drew)); exact HO267.out))) (Kd.R_lt (by (with_reducible repeat (first | apply Kd.R_alloc | apply Kd.R_drewN | apply Kd.R_drew)); exact HO272.out))) (Kd.R_lt (by (with_reducible repeat (first | apply Kd.R_alloc | apply Kd.R_drewN | apply Kd.R_drew)); exact HO278.out))) (below_size (by repeat (first | (with_reducible first | exact HB.out | apply below_alloc | apply pw_below_drewN | apply below_drew1) | exact HB.out)))); have n5_ := Aside0.mk (below_step (by repeat (first | (with_reducible first | exact HB.out | apply below_alloc | apply pw_below_drewN | apply below_drew1) | exact HB.out)) hb); clear HO262; clear HO267; clear HO272; clear HO278; clear HB; have HO262 := n0_; have HO267 := n1_; have HO272 := n2_; have HO278 := n3_; have HO282 := n4_; have HB := n5_; clear n0_ n1_ n2_ n3_ n4_ n5_; (try clear hb); (try clear hb2); (try clear hk); (try clear hi); (try clear ho0)))
  (try simp only [Act.put, List.setIfInBounds_toArray, List.set_cons_zero, List.set_cons_succ])
  go_cut [129] (fun v129 wc => ∃ (kq : Nat) (x129_11 : Bool), v129 = .bool x129_11 ∧ Aside0 (laws_FnUnwound.j0 kq l0 t259 t260 t268 t269 t279 x129_11 = some r) ∧ Aside0 (kq ≤ k) ∧ Aside0 (Kd.R (Kd.int .i64) 2 wc w.heap.size (fun k_ => some k_ ≠ ((.slice Ao17 t268.length co17) : Value).ownBlock ∧ some k_ ≠ (v281 : Value).ownBlock) (.slice Ao14 t260.length co14) t260) ∧ Aside0 (Kd.R (Kd.int .i64) 2 wc w.heap.size (fun k_ => some k_ ≠ ((.slice Ao14 t260.length co14) : Value).ownBlock ∧ some k_ ≠ (v281 : Value).ownBlock) (.slice Ao17 t268.length co17) t268) ∧ Aside0 (Kd.R (Kd.int .i64) 2 wc w.heap.size (fun k_ => some k_ ≠ ((.slice Ao14 t260.length co14) : Value).ownBlock ∧ some k_ ≠ ((.slice Ao17 t268.length co17) : Value).ownBlock) v281 t279) ∧ Aside0 (Below w.heap.size w wc))
  case first =>
   as_aux_lemma =>
   have H := HC12.out
   clear HC12
   by_cases c21 : t265 = t270
   ·rw [if_pos c21] at H
    have c21b0 : (t265 == t270) = true := beq_iff_eq.mpr c21
    have c21b1 : (t265 != t270) = false := bne_eq_false_iff_eq.mpr c21
    clear c21
    (first | rw [c21b0] | (simp only [i64_w, i32_w]; rw [c21b0]) | skip)
    by_cases c22 : t265 = 0
    ·rw [if_pos c22] at H
     have c22b0 : (t265 == 0) = true := beq_iff_eq.mpr c22
     have c22b1 : (t265 != 0) = false := bne_eq_false_iff_eq.mpr c22
     clear c22
     replace H := Option.bind_eq_some_iff.mp H
     obtain ⟨t283, A230, H⟩ := H
     replace H : (if t283 = true then (if t264 = t269 then (if (t268.length : Int) = t259 then (if t274 = 0 then (if t273 = true then (if t276 = t280 then (if t276 = 0 then ((spec_A2Same.f k t275 t279).bind fun t284 => (if t284 = true then (if (t279.length : Int) = t259 then (laws_FnUnwound.j0 k l0 t259 t260 t268 t269 t279 ((t269 == 0) != (t259 == 0))) else (laws_FnUnwound.j0 k l0 t259 t260 t268 t269 t279 true)) else (laws_FnUnwound.j0 k l0 t259 t260 t268 t269 t279 true))) else (laws_FnUnwound.j0 k l0 t259 t260 t268 t269 t279 true)) else (laws_FnUnwound.j0 k l0 t259 t260 t268 t269 t279 true)) else (laws_FnUnwound.j0 k l0 t259 t260 t268 t269 t279 true)) else (laws_FnUnwound.j0 k l0 t259 t260 t268 t269 t279 true)) else (laws_FnUnwound.j0 k l0 t259 t260 t268 t269 t279 true)) else (laws_FnUnwound.j0 k l0 t259 t260 t268 t269 t279 true)) else (laws_FnUnwound.j0 k l0 t259 t260 t268 t269 t279 true)) = some r := H
     have A23 := Aside0.mk A230
     clear A230
     by_cases c24 : t283 = true
     ·subst c24
      have H1 : (if t264 = t269 then (if (t268.length : Int) = t259 then (if t274 = 0 then (if t273 = true then (if t276 = t280 then (if t276 = 0 then ((spec_A2Same.f k t275 t279).bind fun t284 => (if t284 = true then (if (t279.length : Int) = t259 then (laws_FnUnwound.j0 k l0 t259 t260 t268 t269 t279 ((t269 == 0) != (t259 == 0))) else (laws_FnUnwound.j0 k l0 t259 t260 t268 t269 t279 true)) else (laws_FnUnwound.j0 k l0 t259 t260 t268 t269 t279 true))) else (laws_FnUnwound.j0 k l0 t259 t260 t268 t269 t279 true)) else (laws_FnUnwound.j0 k l0 t259 t260 t268 t269 t279 true)) else (laws_FnUnwound.j0 k l0 t259 t260 t268 t269 t279 true)) else (laws_FnUnwound.j0 k l0 t259 t260 t268 t269 t279 true)) else (laws_FnUnwound.j0 k l0 t259 t260 t268 t269 t279 true)) else (laws_FnUnwound.j0 k l0 t259 t260 t268 t269 t279 true)) = some r := by rw [if_pos rfl] at H; exact H
      clear H
      have H := H1
      clear H1
      by_cases c25 : t264 = t269
      ·rw [if_pos c25] at H
       have c25b0 : (t264 == t269) = true := beq_iff_eq.mpr c25
       have c25b1 : (t264 != t269) = false := bne_eq_false_iff_eq.mpr c25
       clear c25
       by_cases c26 : (t268.length : Int) = t259
       ·rw [if_pos c26] at H
        have c26b0 : ((t268.length : Int) == t259) = true := beq_iff_eq.mpr c26
        have c26b1 : ((t268.length : Int) != t259) = false := bne_eq_false_iff_eq.mpr c26
        clear c26
        by_cases c27 : t274 = 0
        ·rw [if_pos c27] at H
         have c27b0 : (t274 == 0) = true := beq_iff_eq.mpr c27
         have c27b1 : (t274 != 0) = false := bne_eq_false_iff_eq.mpr c27
         clear c27
         by_cases c28 : t273 = true
         ·subst c28
          have H1 : (if t276 = t280 then (if t276 = 0 then ((spec_A2Same.f k t275 t279).bind fun t284 => (if t284 = true then (if (t279.length : Int) = t259 then (laws_FnUnwound.j0 k l0 t259 t260 t268 t269 t279 ((t269 == 0) != (t259 == 0))) else (laws_FnUnwound.j0 k l0 t259 t260 t268 t269 t279 true)) else (laws_FnUnwound.j0 k l0 t259 t260 t268 t269 t279 true))) else (laws_FnUnwound.j0 k l0 t259 t260 t268 t269 t279 true)) else (laws_FnUnwound.j0 k l0 t259 t260 t268 t269 t279 true)) = some r := by rw [if_pos rfl] at H; exact H
          clear H
          have H := H1
          clear H1
          by_cases c29 : t276 = t280
          ·rw [if_pos c29] at H
           have c29b0 : (t276 == t280) = true := beq_iff_eq.mpr c29
           have c29b1 : (t276 != t280) = false := bne_eq_false_iff_eq.mpr c29
           clear c29
           by_cases c30 : t276 = 0
           ·rw [if_pos c30] at H
            have c30b0 : (t276 == 0) = true := beq_iff_eq.mpr c30
            have c30b1 : (t276 != 0) = false := bne_eq_false_iff_eq.mpr c30
            clear c30
            replace H := Option.bind_eq_some_iff.mp H
            obtain ⟨t284, A310, H⟩ := H
            replace H : (if t284 = true then (if (t279.length : Int) = t259 then (laws_FnUnwound.j0 k l0 t259 t260 t268 t269 t279 ((t269 == 0) != (t259 == 0))) else (laws_FnUnwound.j0 k l0 t259 t260 t268 t269 t279 true)) else (laws_FnUnwound.j0 k l0 t259 t260 t268 t269 t279 true)) = some r := H
            have A31 := Aside0.mk A310
            clear A310
            by_cases c32 : t284 = true
            ·subst c32
             have H1 : (if (t279.length : Int) = t259 then (laws_FnUnwound.j0 k l0 t259 t260 t268 t269 t279 ((t269 == 0) != (t259 == 0))) else (laws_FnUnwound.j0 k l0 t259 t260 t268 t269 t279 true)) = some r := by rw [if_pos rfl] at H; exact H
             clear H
             have H := H1
             clear H1
             by_cases c33 : (t279.length : Int) = t259
             ·rw [if_pos c33] at H
              have c33b0 : ((t279.length : Int) == t259) = true := beq_iff_eq.mpr c33
              have c33b1 : ((t279.length : Int) != t259) = false := bne_eq_false_iff_eq.mpr c33
              clear c33
              have H' := Aside0.mk H
              clear H
              obtain ⟨Ao34, co34, eo34⟩ := Kd.R_slice HO267.out
              subst eo34
              go_wp2_with (first | (go_at_call 19; (with_reducible refine (spec_A2Same.calls k _ _ t263 _ _ t268 true _ ?side1 ?side2 ?side3 ?side4 A23.out).mono ?_); (case side1 => repeat (first | exact (Kd.R_reads' HO267.out).2.2 | (with_reducible refine Kd.C_alloc ?_ _) | (with_reducible refine Kd.C_drewN ?_ _) | (with_reducible refine Kd.C_drew ?_))); (case side2 => exact (Kd.R_reads' HO267.out).2.1); (case side3 => repeat (first | exact (Kd.R_reads' HO272.out).2.2 | (with_reducible refine Kd.C_alloc ?_ _) | (with_reducible refine Kd.C_drewN ?_ _) | (with_reducible refine Kd.C_drew ?_))); (case side4 => exact (Kd.R_reads' HO272.out).2.1); rintro e w' ⟨rfl, ⟨nd, rfl⟩⟩; obtain ⟨Ao35, co35, eo35⟩ := Kd.R_slice HO278.out; subst eo35; obtain ⟨Ao36, co36, eo36⟩ := Kd.R_slice HO282.out; subst eo36) | (go_at_call 19; (with_reducible refine (spec_A2Same.calls k _ _ t275 _ _ t279 true _ ?side1 ?side2 ?side3 ?side4 A31.out).mono ?_); (case side1 => repeat (first | exact (Kd.R_reads' HO278.out).2.2 | (with_reducible refine Kd.C_alloc ?_ _) | (with_reducible refine Kd.C_drewN ?_ _) | (with_reducible refine Kd.C_drew ?_))); (case side2 => exact (Kd.R_reads' HO278.out).2.1); (case side3 => repeat (first | exact (Kd.R_reads' HO282.out).2.2 | (with_reducible refine Kd.C_alloc ?_ _) | (with_reducible refine Kd.C_drewN ?_ _) | (with_reducible refine Kd.C_drew ?_))); (case side4 => exact (Kd.R_reads' HO282.out).2.1); rintro e w' ⟨rfl, ⟨nd, rfl⟩⟩))
              go_meet
              case rel => exact ⟨_, (((t269 == 0) != (t259 == 0))), (by first | rfl | (simp; done) | (simp [*]; done)), H', ⟨by first | omega | exact Nat.le_refl _⟩, ⟨by (with_reducible repeat (first | apply Kd.R_alloc | apply Kd.R_drewN | apply Kd.R_drew)); exact Kd.R_mono HO262.out (fun _ hk => ⟨hk.1.1.2, hk.2⟩)⟩, ⟨by (with_reducible repeat (first | apply Kd.R_alloc | apply Kd.R_drewN | apply Kd.R_drew)); exact Kd.R_mono HO272.out (fun _ hk => ⟨hk.1.1.1.2, hk.2⟩)⟩, ⟨by (with_reducible repeat (first | apply Kd.R_alloc | apply Kd.R_drewN | apply Kd.R_drew)); exact Kd.R_mono HO282.out (fun _ hk => ⟨hk.1.1.1.2, hk.1.2⟩)⟩, ⟨by repeat (first | (with_reducible first | exact HB.out | apply below_alloc | apply pw_below_drewN | apply below_drew1) | exact HB.out)⟩⟩
             ·rw [if_neg c33] at H
              have c33b0 : ((t279.length : Int) == t259) = false := beq_eq_false_iff_ne.mpr c33
              have c33b1 : ((t279.length : Int) != t259) = true := bne_iff_ne.mpr c33
              have H' := Aside0.mk H
              clear H
              obtain ⟨Ao37, co37, eo37⟩ := Kd.R_slice HO267.out
              subst eo37
              go_wp2_with (first | (go_at_call 19; (with_reducible refine (spec_A2Same.calls k _ _ t263 _ _ t268 true _ ?side1 ?side2 ?side3 ?side4 A23.out).mono ?_); (case side1 => repeat (first | exact (Kd.R_reads' HO267.out).2.2 | (with_reducible refine Kd.C_alloc ?_ _) | (with_reducible refine Kd.C_drewN ?_ _) | (with_reducible refine Kd.C_drew ?_))); (case side2 => exact (Kd.R_reads' HO267.out).2.1); (case side3 => repeat (first | exact (Kd.R_reads' HO272.out).2.2 | (with_reducible refine Kd.C_alloc ?_ _) | (with_reducible refine Kd.C_drewN ?_ _) | (with_reducible refine Kd.C_drew ?_))); (case side4 => exact (Kd.R_reads' HO272.out).2.1); rintro e w' ⟨rfl, ⟨nd, rfl⟩⟩; obtain ⟨Ao38, co38, eo38⟩ := Kd.R_slice HO278.out; subst eo38; obtain ⟨Ao39, co39, eo39⟩ := Kd.R_slice HO282.out; subst eo39) | (go_at_call 19; (with_reducible refine (spec_A2Same.calls k _ _ t275 _ _ t279 true _ ?side1 ?side2 ?side3 ?side4 A31.out).mono ?_); (case side1 => repeat (first | exact (Kd.R_reads' HO278.out).2.2 | (with_reducible refine Kd.C_alloc ?_ _) | (with_reducible refine Kd.C_drewN ?_ _) | (with_reducible refine Kd.C_drew ?_))); (case side2 => exact (Kd.R_reads' HO278.out).2.1); (case side3 => repeat (first | exact (Kd.R_reads' HO282.out).2.2 | (with_reducible refine Kd.C_alloc ?_ _) | (with_reducible refine Kd.C_drewN ?_ _) | (with_reducible refine Kd.C_drew ?_))); (case side4 => exact (Kd.R_reads' HO282.out).2.1); rintro e w' ⟨rfl, ⟨nd, rfl⟩⟩))
              go_meet
              case rel => exact ⟨_, (true), (by first | rfl | (simp; done) | (simp [*]; done)), H', ⟨by first | omega | exact Nat.le_refl _⟩, ⟨by (with_reducible repeat (first | apply Kd.R_alloc | apply Kd.R_drewN | apply Kd.R_drew)); exact Kd.R_mono HO262.out (fun _ hk => ⟨hk.1.1.2, hk.2⟩)⟩, ⟨by (with_reducible repeat (first | apply Kd.R_alloc | apply Kd.R_drewN | apply Kd.R_drew)); exact Kd.R_mono HO272.out (fun _ hk => ⟨hk.1.1.1.2, hk.2⟩)⟩, ⟨by (with_reducible repeat (first | apply Kd.R_alloc | apply Kd.R_drewN | apply Kd.R_drew)); exact Kd.R_mono HO282.out (fun _ hk => ⟨hk.1.1.1.2, hk.1.2⟩)⟩, ⟨by repeat (first | (with_reducible first | exact HB.out | apply below_alloc | apply pw_below_drewN | apply below_drew1) | exact HB.out)⟩⟩
            ·replace c32 := Bool.eq_false_iff.mpr c32
             subst c32
             have H1 : (laws_FnUnwound.j0 k l0 t259 t260 t268 t269 t279 true) = some r := by rw [if_neg (show ¬ (false = true) by decide)] at H; exact H
             clear H
             have H := H1
             clear H1
             have H' := Aside0.mk H
             clear H
             obtain ⟨Ao40, co40, eo40⟩ := Kd.R_slice HO267.out
             subst eo40
             go_wp2_with (first | (go_at_call 19; (with_reducible refine (spec_A2Same.calls k _ _ t263 _ _ t268 true _ ?side1 ?side2 ?side3 ?side4 A23.out).mono ?_); (case side1 => repeat (first | exact (Kd.R_reads' HO267.out).2.2 | (with_reducible refine Kd.C_alloc ?_ _) | (with_reducible refine Kd.C_drewN ?_ _) | (with_reducible refine Kd.C_drew ?_))); (case side2 => exact (Kd.R_reads' HO267.out).2.1); (case side3 => repeat (first | exact (Kd.R_reads' HO272.out).2.2 | (with_reducible refine Kd.C_alloc ?_ _) | (with_reducible refine Kd.C_drewN ?_ _) | (with_reducible refine Kd.C_drew ?_))); (case side4 => exact (Kd.R_reads' HO272.out).2.1); rintro e w' ⟨rfl, ⟨nd, rfl⟩⟩; obtain ⟨Ao41, co41, eo41⟩ := Kd.R_slice HO278.out; subst eo41; obtain ⟨Ao42, co42, eo42⟩ := Kd.R_slice HO282.out; subst eo42) | (go_at_call 19; (with_reducible refine (spec_A2Same.calls k _ _ t275 _ _ t279 false _ ?side1 ?side2 ?side3 ?side4 A31.out).mono ?_); (case side1 => repeat (first | exact (Kd.R_reads' HO278.out).2.2 | (with_reducible refine Kd.C_alloc ?_ _) | (with_reducible refine Kd.C_drewN ?_ _) | (with_reducible refine Kd.C_drew ?_))); (case side2 => exact (Kd.R_reads' HO278.out).2.1); (case side3 => repeat (first | exact (Kd.R_reads' HO282.out).2.2 | (with_reducible refine Kd.C_alloc ?_ _) | (with_reducible refine Kd.C_drewN ?_ _) | (with_reducible refine Kd.C_drew ?_))); (case side4 => exact (Kd.R_reads' HO282.out).2.1); rintro e w' ⟨rfl, ⟨nd, rfl⟩⟩))
             go_meet
             case rel => exact ⟨_, (true), (by first | rfl | (simp; done) | (simp [*]; done)), H', ⟨by first | omega | exact Nat.le_refl _⟩, ⟨by (with_reducible repeat (first | apply Kd.R_alloc | apply Kd.R_drewN | apply Kd.R_drew)); exact Kd.R_mono HO262.out (fun _ hk => ⟨hk.1.1.2, hk.2⟩)⟩, ⟨by (with_reducible repeat (first | apply Kd.R_alloc | apply Kd.R_drewN | apply Kd.R_drew)); exact Kd.R_mono HO272.out (fun _ hk => ⟨hk.1.1.1.2, hk.2⟩)⟩, ⟨by (with_reducible repeat (first | apply Kd.R_alloc | apply Kd.R_drewN | apply Kd.R_drew)); exact Kd.R_mono HO282.out (fun _ hk => ⟨hk.1.1.1.2, hk.1.2⟩)⟩, ⟨by repeat (first | (with_reducible first | exact HB.out | apply below_alloc | apply pw_below_drewN | apply below_drew1) | exact HB.out)⟩⟩
           ·rw [if_neg c30] at H
            have c30b0 : (t276 == 0) = false := beq_eq_false_iff_ne.mpr c30
            have c30b1 : (t276 != 0) = true := bne_iff_ne.mpr c30
            have H' := Aside0.mk H
            clear H
            obtain ⟨Ao43, co43, eo43⟩ := Kd.R_slice HO267.out
            subst eo43
            go_wp2_with (first | (go_at_call 19; (with_reducible refine (spec_A2Same.calls k _ _ t263 _ _ t268 true _ ?side1 ?side2 ?side3 ?side4 A23.out).mono ?_); (case side1 => repeat (first | exact (Kd.R_reads' HO267.out).2.2 | (with_reducible refine Kd.C_alloc ?_ _) | (with_reducible refine Kd.C_drewN ?_ _) | (with_reducible refine Kd.C_drew ?_))); (case side2 => exact (Kd.R_reads' HO267.out).2.1); (case side3 => repeat (first | exact (Kd.R_reads' HO272.out).2.2 | (with_reducible refine Kd.C_alloc ?_ _) | (with_reducible refine Kd.C_drewN ?_ _) | (with_reducible refine Kd.C_drew ?_))); (case side4 => exact (Kd.R_reads' HO272.out).2.1); rintro e w' ⟨rfl, ⟨nd, rfl⟩⟩))
            go_meet
            case rel => exact ⟨_, (true), (by first | rfl | (simp; done) | (simp [*]; done)), H', ⟨by first | omega | exact Nat.le_refl _⟩, ⟨by (with_reducible repeat (first | apply Kd.R_alloc | apply Kd.R_drewN | apply Kd.R_drew)); exact Kd.R_mono HO262.out (fun _ hk => ⟨hk.1.1.2, hk.2⟩)⟩, ⟨by (with_reducible repeat (first | apply Kd.R_alloc | apply Kd.R_drewN | apply Kd.R_drew)); exact Kd.R_mono HO272.out (fun _ hk => ⟨hk.1.1.1.2, hk.2⟩)⟩, ⟨by (with_reducible repeat (first | apply Kd.R_alloc | apply Kd.R_drewN | apply Kd.R_drew)); exact Kd.R_mono HO282.out (fun _ hk => ⟨hk.1.1.1.2, hk.1.2⟩)⟩, ⟨by repeat (first | (with_reducible first | exact HB.out | apply below_alloc | apply pw_below_drewN | apply below_drew1) | exact HB.out)⟩⟩
          ·rw [if_neg c29] at H
           have c29b0 : (t276 == t280) = false := beq_eq_false_iff_ne.mpr c29
           have c29b1 : (t276 != t280) = true := bne_iff_ne.mpr c29
           have H' := Aside0.mk H
           clear H
           obtain ⟨Ao44, co44, eo44⟩ := Kd.R_slice HO267.out
           subst eo44
           go_wp2_with (first | (go_at_call 19; (with_reducible refine (spec_A2Same.calls k _ _ t263 _ _ t268 true _ ?side1 ?side2 ?side3 ?side4 A23.out).mono ?_); (case side1 => repeat (first | exact (Kd.R_reads' HO267.out).2.2 | (with_reducible refine Kd.C_alloc ?_ _) | (with_reducible refine Kd.C_drewN ?_ _) | (with_reducible refine Kd.C_drew ?_))); (case side2 => exact (Kd.R_reads' HO267.out).2.1); (case side3 => repeat (first | exact (Kd.R_reads' HO272.out).2.2 | (with_reducible refine Kd.C_alloc ?_ _) | (with_reducible refine Kd.C_drewN ?_ _) | (with_reducible refine Kd.C_drew ?_))); (case side4 => exact (Kd.R_reads' HO272.out).2.1); rintro e w' ⟨rfl, ⟨nd, rfl⟩⟩))
           go_meet
           case rel => exact ⟨_, (true), (by first | rfl | (simp; done) | (simp [*]; done)), H', ⟨by first | omega | exact Nat.le_refl _⟩, ⟨by (with_reducible repeat (first | apply Kd.R_alloc | apply Kd.R_drewN | apply Kd.R_drew)); exact Kd.R_mono HO262.out (fun _ hk => ⟨hk.1.1.2, hk.2⟩)⟩, ⟨by (with_reducible repeat (first | apply Kd.R_alloc | apply Kd.R_drewN | apply Kd.R_drew)); exact Kd.R_mono HO272.out (fun _ hk => ⟨hk.1.1.1.2, hk.2⟩)⟩, ⟨by (with_reducible repeat (first | apply Kd.R_alloc | apply Kd.R_drewN | apply Kd.R_drew)); exact Kd.R_mono HO282.out (fun _ hk => ⟨hk.1.1.1.2, hk.1.2⟩)⟩, ⟨by repeat (first | (with_reducible first | exact HB.out | apply below_alloc | apply pw_below_drewN | apply below_drew1) | exact HB.out)⟩⟩
         ·replace c28 := Bool.eq_false_iff.mpr c28
          subst c28
          have H1 : (laws_FnUnwound.j0 k l0 t259 t260 t268 t269 t279 true) = some r := by rw [if_neg (show ¬ (false = true) by decide)] at H; exact H
          clear H
          have H := H1
          clear H1
          have H' := Aside0.mk H
          clear H
          obtain ⟨Ao45, co45, eo45⟩ := Kd.R_slice HO267.out
          subst eo45
          go_wp2_with (first | (go_at_call 19; (with_reducible refine (spec_A2Same.calls k _ _ t263 _ _ t268 true _ ?side1 ?side2 ?side3 ?side4 A23.out).mono ?_); (case side1 => repeat (first | exact (Kd.R_reads' HO267.out).2.2 | (with_reducible refine Kd.C_alloc ?_ _) | (with_reducible refine Kd.C_drewN ?_ _) | (with_reducible refine Kd.C_drew ?_))); (case side2 => exact (Kd.R_reads' HO267.out).2.1); (case side3 => repeat (first | exact (Kd.R_reads' HO272.out).2.2 | (with_reducible refine Kd.C_alloc ?_ _) | (with_reducible refine Kd.C_drewN ?_ _) | (with_reducible refine Kd.C_drew ?_))); (case side4 => exact (Kd.R_reads' HO272.out).2.1); rintro e w' ⟨rfl, ⟨nd, rfl⟩⟩))
          go_meet
          case rel => exact ⟨_, (true), (by first | rfl | (simp; done) | (simp [*]; done)), H', ⟨by first | omega | exact Nat.le_refl _⟩, ⟨by (with_reducible repeat (first | apply Kd.R_alloc | apply Kd.R_drewN | apply Kd.R_drew)); exact Kd.R_mono HO262.out (fun _ hk => ⟨hk.1.1.2, hk.2⟩)⟩, ⟨by (with_reducible repeat (first | apply Kd.R_alloc | apply Kd.R_drewN | apply Kd.R_drew)); exact Kd.R_mono HO272.out (fun _ hk => ⟨hk.1.1.1.2, hk.2⟩)⟩, ⟨by (with_reducible repeat (first | apply Kd.R_alloc | apply Kd.R_drewN | apply Kd.R_drew)); exact Kd.R_mono HO282.out (fun _ hk => ⟨hk.1.1.1.2, hk.1.2⟩)⟩, ⟨by repeat (first | (with_reducible first | exact HB.out | apply below_alloc | apply pw_below_drewN | apply below_drew1) | exact HB.out)⟩⟩
        ·rw [if_neg c27] at H
         have c27b0 : (t274 == 0) = false := beq_eq_false_iff_ne.mpr c27
         have c27b1 : (t274 != 0) = true := bne_iff_ne.mpr c27
         have H' := Aside0.mk H
         clear H
         obtain ⟨Ao46, co46, eo46⟩ := Kd.R_slice HO267.out
         subst eo46
         go_wp2_with (first | (go_at_call 19; (with_reducible refine (spec_A2Same.calls k _ _ t263 _ _ t268 true _ ?side1 ?side2 ?side3 ?side4 A23.out).mono ?_); (case side1 => repeat (first | exact (Kd.R_reads' HO267.out).2.2 | (with_reducible refine Kd.C_alloc ?_ _) | (with_reducible refine Kd.C_drewN ?_ _) | (with_reducible refine Kd.C_drew ?_))); (case side2 => exact (Kd.R_reads' HO267.out).2.1); (case side3 => repeat (first | exact (Kd.R_reads' HO272.out).2.2 | (with_reducible refine Kd.C_alloc ?_ _) | (with_reducible refine Kd.C_drewN ?_ _) | (with_reducible refine Kd.C_drew ?_))); (case side4 => exact (Kd.R_reads' HO272.out).2.1); rintro e w' ⟨rfl, ⟨nd, rfl⟩⟩))
         go_meet
         case rel => exact ⟨_, (true), (by first | rfl | (simp; done) | (simp [*]; done)), H', ⟨by first | omega | exact Nat.le_refl _⟩, ⟨by (with_reducible repeat (first | apply Kd.R_alloc | apply Kd.R_drewN | apply Kd.R_drew)); exact Kd.R_mono HO262.out (fun _ hk => ⟨hk.1.1.2, hk.2⟩)⟩, ⟨by (with_reducible repeat (first | apply Kd.R_alloc | apply Kd.R_drewN | apply Kd.R_drew)); exact Kd.R_mono HO272.out (fun _ hk => ⟨hk.1.1.1.2, hk.2⟩)⟩, ⟨by (with_reducible repeat (first | apply Kd.R_alloc | apply Kd.R_drewN | apply Kd.R_drew)); exact Kd.R_mono HO282.out (fun _ hk => ⟨hk.1.1.1.2, hk.1.2⟩)⟩, ⟨by repeat (first | (with_reducible first | exact HB.out | apply below_alloc | apply pw_below_drewN | apply below_drew1) | exact HB.out)⟩⟩
       ·rw [if_neg c26] at H
        have c26b0 : ((t268.length : Int) == t259) = false := beq_eq_false_iff_ne.mpr c26
        have c26b1 : ((t268.length : Int) != t259) = true := bne_iff_ne.mpr c26
        have H' := Aside0.mk H
        clear H
        obtain ⟨Ao47, co47, eo47⟩ := Kd.R_slice HO267.out
        subst eo47
        go_wp2_with (first | (go_at_call 19; (with_reducible refine (spec_A2Same.calls k _ _ t263 _ _ t268 true _ ?side1 ?side2 ?side3 ?side4 A23.out).mono ?_); (case side1 => repeat (first | exact (Kd.R_reads' HO267.out).2.2 | (with_reducible refine Kd.C_alloc ?_ _) | (with_reducible refine Kd.C_drewN ?_ _) | (with_reducible refine Kd.C_drew ?_))); (case side2 => exact (Kd.R_reads' HO267.out).2.1); (case side3 => repeat (first | exact (Kd.R_reads' HO272.out).2.2 | (with_reducible refine Kd.C_alloc ?_ _) | (with_reducible refine Kd.C_drewN ?_ _) | (with_reducible refine Kd.C_drew ?_))); (case side4 => exact (Kd.R_reads' HO272.out).2.1); rintro e w' ⟨rfl, ⟨nd, rfl⟩⟩))
        go_meet
        case rel => exact ⟨_, (true), (by first | rfl | (simp; done) | (simp [*]; done)), H', ⟨by first | omega | exact Nat.le_refl _⟩, ⟨by (with_reducible repeat (first | apply Kd.R_alloc | apply Kd.R_drewN | apply Kd.R_drew)); exact Kd.R_mono HO262.out (fun _ hk => ⟨hk.1.1.2, hk.2⟩)⟩, ⟨by (with_reducible repeat (first | apply Kd.R_alloc | apply Kd.R_drewN | apply Kd.R_drew)); exact Kd.R_mono HO272.out (fun _ hk => ⟨hk.1.1.1.2, hk.2⟩)⟩, ⟨by (with_reducible repeat (first | apply Kd.R_alloc | apply Kd.R_drewN | apply Kd.R_drew)); exact Kd.R_mono HO282.out (fun _ hk => ⟨hk.1.1.1.2, hk.1.2⟩)⟩, ⟨by repeat (first | (with_reducible first | exact HB.out | apply below_alloc | apply pw_below_drewN | apply below_drew1) | exact HB.out)⟩⟩
      ·rw [if_neg c25] at H
       have c25b0 : (t264 == t269) = false := beq_eq_false_iff_ne.mpr c25
       have c25b1 : (t264 != t269) = true := bne_iff_ne.mpr c25
       have H' := Aside0.mk H
       clear H
       obtain ⟨Ao48, co48, eo48⟩ := Kd.R_slice HO267.out
       subst eo48
       go_wp2_with (first | (go_at_call 19; (with_reducible refine (spec_A2Same.calls k _ _ t263 _ _ t268 true _ ?side1 ?side2 ?side3 ?side4 A23.out).mono ?_); (case side1 => repeat (first | exact (Kd.R_reads' HO267.out).2.2 | (with_reducible refine Kd.C_alloc ?_ _) | (with_reducible refine Kd.C_drewN ?_ _) | (with_reducible refine Kd.C_drew ?_))); (case side2 => exact (Kd.R_reads' HO267.out).2.1); (case side3 => repeat (first | exact (Kd.R_reads' HO272.out).2.2 | (with_reducible refine Kd.C_alloc ?_ _) | (with_reducible refine Kd.C_drewN ?_ _) | (with_reducible refine Kd.C_drew ?_))); (case side4 => exact (Kd.R_reads' HO272.out).2.1); rintro e w' ⟨rfl, ⟨nd, rfl⟩⟩))
       go_meet
       case rel => exact ⟨_, (true), (by first | rfl | (simp; done) | (simp [*]; done)), H', ⟨by first | omega | exact Nat.le_refl _⟩, ⟨by (with_reducible repeat (first | apply Kd.R_alloc | apply Kd.R_drewN | apply Kd.R_drew)); exact Kd.R_mono HO262.out (fun _ hk => ⟨hk.1.1.2, hk.2⟩)⟩, ⟨by (with_reducible repeat (first | apply Kd.R_alloc | apply Kd.R_drewN | apply Kd.R_drew)); exact Kd.R_mono HO272.out (fun _ hk => ⟨hk.1.1.1.2, hk.2⟩)⟩, ⟨by (with_reducible repeat (first | apply Kd.R_alloc | apply Kd.R_drewN | apply Kd.R_drew)); exact Kd.R_mono HO282.out (fun _ hk => ⟨hk.1.1.1.2, hk.1.2⟩)⟩, ⟨by repeat (first | (with_reducible first | exact HB.out | apply below_alloc | apply pw_below_drewN | apply below_drew1) | exact HB.out)⟩⟩
     ·replace c24 := Bool.eq_false_iff.mpr c24
      subst c24
      have H1 : (laws_FnUnwound.j0 k l0 t259 t260 t268 t269 t279 true) = some r := by rw [if_neg (show ¬ (false = true) by decide)] at H; exact H
      clear H
      have H := H1
      clear H1
      have H' := Aside0.mk H
      clear H
      obtain ⟨Ao49, co49, eo49⟩ := Kd.R_slice HO267.out
      subst eo49
      go_wp2_with (first | (go_at_call 19; (with_reducible refine (spec_A2Same.calls k _ _ t263 _ _ t268 false _ ?side1 ?side2 ?side3 ?side4 A23.out).mono ?_); (case side1 => repeat (first | exact (Kd.R_reads' HO267.out).2.2 | (with_reducible refine Kd.C_alloc ?_ _) | (with_reducible refine Kd.C_drewN ?_ _) | (with_reducible refine Kd.C_drew ?_))); (case side2 => exact (Kd.R_reads' HO267.out).2.1); (case side3 => repeat (first | exact (Kd.R_reads' HO272.out).2.2 | (with_reducible refine Kd.C_alloc ?_ _) | (with_reducible refine Kd.C_drewN ?_ _) | (with_reducible refine Kd.C_drew ?_))); (case side4 => exact (Kd.R_reads' HO272.out).2.1); rintro e w' ⟨rfl, ⟨nd, rfl⟩⟩))
      go_meet
      case rel => exact ⟨_, (true), (by first | rfl | (simp; done) | (simp [*]; done)), H', ⟨by first | omega | exact Nat.le_refl _⟩, ⟨by (with_reducible repeat (first | apply Kd.R_alloc | apply Kd.R_drewN | apply Kd.R_drew)); exact Kd.R_mono HO262.out (fun _ hk => ⟨hk.1.1.2, hk.2⟩)⟩, ⟨by (with_reducible repeat (first | apply Kd.R_alloc | apply Kd.R_drewN | apply Kd.R_drew)); exact Kd.R_mono HO272.out (fun _ hk => ⟨hk.1.1.1.2, hk.2⟩)⟩, ⟨by (with_reducible repeat (first | apply Kd.R_alloc | apply Kd.R_drewN | apply Kd.R_drew)); exact Kd.R_mono HO282.out (fun _ hk => ⟨hk.1.1.1.2, hk.1.2⟩)⟩, ⟨by repeat (first | (with_reducible first | exact HB.out | apply below_alloc | apply pw_below_drewN | apply below_drew1) | exact HB.out)⟩⟩
    ·rw [if_neg c22] at H
     have c22b0 : (t265 == 0) = false := beq_eq_false_iff_ne.mpr c22
     have c22b1 : (t265 != 0) = true := bne_iff_ne.mpr c22
     have H' := Aside0.mk H
     clear H
     go_wp2
     go_meet
     case rel => exact ⟨_, (true), (by first | rfl | (simp; done) | (simp [*]; done)), H', ⟨by first | omega | exact Nat.le_refl _⟩, ⟨by (with_reducible repeat (first | apply Kd.R_alloc | apply Kd.R_drewN | apply Kd.R_drew)); exact Kd.R_mono HO262.out (fun _ hk => ⟨hk.1.1.2, hk.2⟩)⟩, ⟨by (with_reducible repeat (first | apply Kd.R_alloc | apply Kd.R_drewN | apply Kd.R_drew)); exact Kd.R_mono HO272.out (fun _ hk => ⟨hk.1.1.1.2, hk.2⟩)⟩, ⟨by (with_reducible repeat (first | apply Kd.R_alloc | apply Kd.R_drewN | apply Kd.R_drew)); exact Kd.R_mono HO282.out (fun _ hk => ⟨hk.1.1.1.2, hk.1.2⟩)⟩, ⟨by repeat (first | (with_reducible first | exact HB.out | apply below_alloc | apply pw_below_drewN | apply below_drew1) | exact HB.out)⟩⟩
   ·rw [if_neg c21] at H
    have c21b0 : (t265 == t270) = false := beq_eq_false_iff_ne.mpr c21
    have c21b1 : (t265 != t270) = true := bne_iff_ne.mpr c21
    (first | rw [c21b0] | (simp only [i64_w, i32_w]; rw [c21b0]) | skip)
    have H' := Aside0.mk H
    clear H
    go_wp2
    go_meet
    case rel => exact ⟨_, (true), (by first | rfl | (simp; done) | (simp [*]; done)), H', ⟨by first | omega | exact Nat.le_refl _⟩, ⟨by (with_reducible repeat (first | apply Kd.R_alloc | apply Kd.R_drewN | apply Kd.R_drew)); exact Kd.R_mono HO262.out (fun _ hk => ⟨hk.1.1.2, hk.2⟩)⟩, ⟨by (with_reducible repeat (first | apply Kd.R_alloc | apply Kd.R_drewN | apply Kd.R_drew)); exact Kd.R_mono HO272.out (fun _ hk => ⟨hk.1.1.1.2, hk.2⟩)⟩, ⟨by (with_reducible repeat (first | apply Kd.R_alloc | apply Kd.R_drewN | apply Kd.R_drew)); exact Kd.R_mono HO282.out (fun _ hk => ⟨hk.1.1.1.2, hk.1.2⟩)⟩, ⟨by repeat (first | (with_reducible first | exact HB.out | apply below_alloc | apply pw_below_drewN | apply below_drew1) | exact HB.out)⟩⟩
  case rest =>
   as_aux_lemma =>
   clear HC12
   try clear c1
   try clear c2
   try clear p2
   try clear c3
   try clear c4
   try clear c11
   try clear c12
   try clear c13
   try clear c14
   try clear c15
   try clear c16
   try clear c17
   try clear c18
   try clear c21
   try clear c21b0
   try clear c21b1
   try clear c22
   try clear c22b0
   try clear c22b1
   try clear c24
   try clear c25
   try clear c25b0
   try clear c25b1
   try clear c26
   try clear c26b0
   try clear c26b1
   try clear c27
   try clear c27b0
   try clear c27b1
   try clear c28
   try clear c29
   try clear c29b0
   try clear c29b1
   try clear c30
   try clear c30b0
   try clear c30b1
   try clear c32
   try clear c33
   try clear c33b0
   try clear c33b1
   obtain ⟨kq, x129_11, rfl, HA, HJ11, HO_6, HO_10, HO_17, HB⟩ := hcut
   cases kq with
   | zero => exact absurd HA.out (by simp [laws_FnUnwound.j0])
   | succ kj11 =>
    have H := HA.out
    clear HA
    simp only [laws_FnUnwound.j0] at H
    by_cases c50 : x129_11 = true
    ·subst c50
     have H1 : (none) = some r := by rw [if_pos rfl] at H; exact H
     clear H
     have H := H1
     clear H1
     exact absurd H (by simp)
    ·replace c50 := Bool.eq_false_iff.mpr c50
     subst c50
     have H1 : ((impl_CanUnwind.f kj11 t268 t279).bind fun bt285 => (if bt285.2 = 0 then (laws_FnUnwound.j1 kj11 l0 t259 t260 t269 (!bt285.1)) else (laws_FnUnwound.j1 kj11 l0 t259 t260 t269 true))) = some r := by rw [if_neg (show ¬ (false = true) by decide)] at H; exact H
     clear H
     have H := H1
     clear H1
     replace H := Option.bind_eq_some_iff.mp H
     obtain ⟨⟨t285, t286⟩, A510, H⟩ := H
     replace H : (if t286 = 0 then (laws_FnUnwound.j1 kj11 l0 t259 t260 t269 (!t285)) else (laws_FnUnwound.j1 kj11 l0 t259 t260 t269 true)) = some r := H
     have A51 := Aside0.mk A510
     clear A510
     have HC52 := Aside0.mk H
     clear H
     obtain ⟨Ao53, co53, eo53⟩ := Kd.R_slice HO_17.out
     subst eo53
     go_upto_region 13 with (first | ((with_reducible refine gate_callee (f := 16) rfl ?_); refine goesL_ (some 133) rfl rfl Try.func16 (by kernel_rfl) rfl #[.slice Ao17 t268.length co17, .slice Ao53 t279.length co53] rfl (by (try simp only [List.map_toArray, List.map_cons, List.map_nil]); first | done | rfl | (simp only [List.length_drop, List.length_take]; rfl)) ?_; (with_reducible refine (impl_CanUnwind.calls kj11 _ _ t268 _ _ t279 t285 t286 _ ?side1 ?side2 ?side3 ?side4 A51.out).mono ?_); (case side1 => repeat (first | exact (Kd.R_reads' HO_10.out).2.2 | (with_reducible refine Kd.C_alloc ?_ _) | (with_reducible refine Kd.C_drewN ?_ _) | (with_reducible refine Kd.C_drew ?_))); (case side2 => exact (Kd.R_reads' HO_10.out).2.1); (case side3 => repeat (first | exact (Kd.R_reads' HO_17.out).2.2 | (with_reducible refine Kd.C_alloc ?_ _) | (with_reducible refine Kd.C_drewN ?_ _) | (with_reducible refine Kd.C_drew ?_))); (case side4 => exact (Kd.R_reads' HO_17.out).2.1); rintro e w54 ⟨rfl, hb⟩; refine ⟨_, rfl, ?_⟩; have n0_ := Aside0.mk (Kd.R_below (by (with_reducible repeat (first | apply Kd.R_alloc | apply Kd.R_drewN | apply Kd.R_drew)); exact HO_6.out) hb); have n1_ := Aside0.mk (Kd.R_below (by (with_reducible repeat (first | apply Kd.R_alloc | apply Kd.R_drewN | apply Kd.R_drew)); exact HO_10.out) hb); have n2_ := Aside0.mk (Kd.R_below (by (with_reducible repeat (first | apply Kd.R_alloc | apply Kd.R_drewN | apply Kd.R_drew)); exact HO_17.out) hb); have n3_ := Aside0.mk (below_step (by repeat (first | (with_reducible first | exact HB.out | apply below_alloc | apply pw_below_drewN | apply below_drew1) | exact HB.out)) hb); clear HO_6; clear HO_10; clear HO_17; clear HB; have HO_6 := n0_; have HO_10 := n1_; have HO_17 := n2_; have HB := n3_; clear n0_ n1_ n2_ n3_; (try clear hb); (try clear hb2); (try clear hk); (try clear hi)))
     (try simp only [Act.put, List.setIfInBounds_toArray, List.set_cons_zero, List.set_cons_succ])
     go_cut [141] (fun v141 wc => ∃ (kq : Nat) (x141_51 : Bool), v141 = .bool x141_51 ∧ Aside0 (laws_FnUnwound.j1 kq l0 t259 t260 t269 x141_51 = some r) ∧ Aside0 (kq ≤ kj11) ∧ Aside0 (Kd.R (Kd.int .i64) 2 wc w.heap.size (fun _ => True) (.slice Ao14 t260.length co14) t260) ∧ Aside0 (Below w.heap.size w wc))
     case first =>
      as_aux_lemma =>
      have H := HC52.out
      clear HC52
      by_cases c55 : t286 = 0
      ·rw [if_pos c55] at H
       have c55b0 : (t286 == 0) = true := beq_iff_eq.mpr c55
       have c55b1 : (t286 != 0) = false := bne_eq_false_iff_eq.mpr c55
       clear c55
       (first | rw [c55b0] | (simp only [i64_w, i32_w]; rw [c55b0]) | skip)
       have H' := Aside0.mk H
       clear H
       go_wp2
       go_meet
       case rel => exact ⟨_, (!t285), (by first | rfl | (simp; done) | (simp [*]; done)), H', ⟨by have := HJ11.out; first | omega | exact Nat.le_refl _⟩, ⟨by (with_reducible repeat (first | apply Kd.R_alloc | apply Kd.R_drewN | apply Kd.R_drew)); exact Kd.R_mono HO_6.out (fun _ hk => trivial)⟩, ⟨by repeat (first | (with_reducible first | exact HB.out | apply below_alloc | apply pw_below_drewN | apply below_drew1) | exact HB.out)⟩⟩
      ·rw [if_neg c55] at H
       have c55b0 : (t286 == 0) = false := beq_eq_false_iff_ne.mpr c55
       have c55b1 : (t286 != 0) = true := bne_iff_ne.mpr c55
       (first | rw [c55b0] | (simp only [i64_w, i32_w]; rw [c55b0]) | skip)
       have H' := Aside0.mk H
       clear H
       go_wp2
       go_meet
       case rel => exact ⟨_, (true), (by first | rfl | (simp; done) | (simp [*]; done)), H', ⟨by have := HJ11.out; first | omega | exact Nat.le_refl _⟩, ⟨by (with_reducible repeat (first | apply Kd.R_alloc | apply Kd.R_drewN | apply Kd.R_drew)); exact Kd.R_mono HO_6.out (fun _ hk => trivial)⟩, ⟨by repeat (first | (with_reducible first | exact HB.out | apply below_alloc | apply pw_below_drewN | apply below_drew1) | exact HB.out)⟩⟩
     case rest =>
      as_aux_lemma =>
      clear HC52
      try clear c1
      try clear c2
      try clear p2
      try clear c3
      try clear c4
      try clear c5
      try clear c11
      try clear c12
      try clear c13
      try clear c14
      try clear c15
      try clear c16
      try clear c17
      try clear c18
      try clear c21
      try clear c21b0
      try clear c21b1
      try clear c22
      try clear c22b0
      try clear c22b1
      try clear c24
      try clear c25
      try clear c25b0
      try clear c25b1
      try clear c26
      try clear c26b0
      try clear c26b1
      try clear c27
      try clear c27b0
      try clear c27b1
      try clear c28
      try clear c29
      try clear c29b0
      try clear c29b1
      try clear c30
      try clear c30b0
      try clear c30b1
      try clear c32
      try clear c33
      try clear c33b0
      try clear c33b1
      try clear c50
      try clear c55
      try clear c55b0
      try clear c55b1
      try clear p2
      obtain ⟨kq, x141_51, rfl, HA, HJ51, HO_6, HB⟩ := hcut
      cases kq with
      | zero => exact absurd HA.out (by simp [laws_FnUnwound.j1])
      | succ kj51 =>
       have H := HA.out
       clear HA
       simp only [laws_FnUnwound.j1] at H
       by_cases c56 : x141_51 = true
       ·subst c56
        have H1 : (none) = some r := by rw [if_pos rfl] at H; exact H
        clear H
        have H := H1
        clear H1
        exact absurd H (by simp)
       ·replace c56 := Bool.eq_false_iff.mpr c56
        subst c56
        have H1 : (if 0 ≤ t259 then (if (t259 : Int).toNat ≤ 35184372088832 then (laws_FnUnwound.l0 kj51 l0 t259 t260 t269 (List.replicate (t259 : Int).toNat 0) 0 0) else (none)) else (none)) = some r := by rw [if_neg (show ¬ (false = true) by decide)] at H; exact H
        clear H
        have H := H1
        clear H1
        by_cases c57 : 0 ≤ t259
        ·rw [if_pos c57] at H
         have c57b0 := eq_true c57
         have c57b1 : decide (0 ≤ t259) = true := decide_eq_true c57
         clear c57
         by_cases c58 : (t259 : Int).toNat ≤ 35184372088832
         ·rw [if_pos c58] at H
          have c58b0 := eq_true c58
          have c58b1 : decide ((t259 : Int).toNat ≤ 35184372088832) = true := decide_eq_true c58
          clear c58
          obtain ⟨y287, hy287⟩ : ∃ y_ : List Int, y_ = (List.replicate (t259 : Int).toNat 0) := ⟨_, rfl⟩
          replace H : (laws_FnUnwound.l0 kj51 l0 t259 t260 t269 y287 0 0) = some r := by first | (rw [hy287]; with_reducible exact H) | (have H2_ := (Option.bind_some _ _).symm.trans H; rw [hy287]; with_reducible exact H2_) | (have H2_ := (Option.bind_some _ _).symm.trans H; with_reducible exact H2_) | with_reducible exact H | (rw [hy287]; exact H) | exact H
          have Ny287 := Aside0.mk hy287
          clear hy287
          have H' := Aside0.mk H
          clear H
          go_wp2_with (first | ((with_reducible refine gate_dst (N := 143) rfl ?_); (try (refine gate_guard (by rfl) ?_; dsimp only)); refine Kd.R_make (Kd.int .i64) _ 2 rfl (N := 143) rfl 25 _ _ rfl t259 rfl rfl Try.underlying25 (.int .i64 0) 8 info2 rfl (by decide) (by omega) 0 (ok := fun _ => True) (okp := fun _ => True) rfl (fun _ hk => hk) trivial (of_decide_eq_true (by first | (with_reducible assumption) | assumption)) (Nat.le_trans (Nat.mul_le_mul_right _ (of_decide_eq_true (by first | (with_reducible assumption) | assumption) : t259.toNat ≤ 35184372088832)) (by omega)) (Below.refl _ _) (Nat.le_refl _) ?_; intro v288 w59 ho60 hb hg_ hnew_; clear hg_ hnew_; (first | rw [← Ny287.out] at ho60 | (simp only [Int.reduceToNat] at ho60; rw [← Ny287.out] at ho60)); have n0_ := Aside0.mk (Kd.R_elder' (by (with_reducible repeat (first | apply Kd.R_alloc | apply Kd.R_drewN | apply Kd.R_drew)); exact HO_6.out) (Kd.R_base ho60) hb); have n1_ := Aside0.mk (Kd.R_lower (Kd.R_new' ho60 (Kd.R_lt (by (with_reducible repeat (first | apply Kd.R_alloc | apply Kd.R_drewN | apply Kd.R_drew)); exact HO_6.out))) (below_size (by repeat (first | (with_reducible first | exact HB.out | apply below_alloc | apply pw_below_drewN | apply below_drew1) | exact HB.out)))); have n2_ := Aside0.mk (below_step (by repeat (first | (with_reducible first | exact HB.out | apply below_alloc | apply pw_below_drewN | apply below_drew1) | exact HB.out)) hb); clear HO_6; clear HB; have HO_6 := n0_; have HO289 := n1_; have HB := n2_; clear n0_ n1_ n2_; clear hb ho60))
          go_loopg [22, 23] kj51 (fun kq v22 v23 w' => ∃ (x21_3 : List Int) (x22_3 : Int) (x23_3 : Int), v22 = .int .i64 x22_3 ∧ v23 = .int .i64 x23_3 ∧ Aside0 (laws_FnUnwound.l0 kq l0 t259 t260 t269 x21_3 x22_3 x23_3 = some r) ∧ Aside0 (kq ≤ kj51) ∧ Aside0 (Kd.R (Kd.int .i64) 2 w' w.heap.size (fun k_ => some k_ ≠ (v288 : Value).ownBlock) (.slice Ao14 t260.length co14) t260) ∧ Aside0 (Kd.R (Kd.int .i64) 2 w' w.heap.size (fun k_ => some k_ ≠ ((.slice Ao14 t260.length co14) : Value).ownBlock) v288 x21_3) ∧ Aside0 (Below w.heap.size w w'))
          case atStart => exact ⟨(y287), (0), (0), (by first | rfl | (simp; done) | (simp [*]; done)), (by first | rfl | (simp; done) | (simp [*]; done)), H', ⟨Nat.le_refl _⟩, ⟨by (with_reducible repeat (first | apply Kd.R_alloc | apply Kd.R_drewN | apply Kd.R_drew)); exact Kd.R_mono HO_6.out (fun _ hk => hk.2)⟩, ⟨by (with_reducible repeat (first | apply Kd.R_alloc | apply Kd.R_drewN | apply Kd.R_drew)); exact Kd.R_mono HO289.out (fun _ hk => hk.2)⟩, ⟨by repeat (first | (with_reducible first | exact HB.out | apply below_alloc | apply pw_below_drewN | apply below_drew1) | exact HB.out)⟩⟩
          case round =>
           clear H'
           try clear c1
           try clear c2
           try clear p2
           try clear c3
           try clear c4
           try clear c5
           try clear c11
           try clear c12
           try clear c13
           try clear c14
           try clear c15
           try clear c16
           try clear c17
           try clear c18
           try clear c21
           try clear c21b0
           try clear c21b1
           try clear c22
           try clear c22b0
           try clear c22b1
           try clear c24
           try clear c25
           try clear c25b0
           try clear c25b1
           try clear c26
           try clear c26b0
           try clear c26b1
           try clear c27
           try clear c27b0
           try clear c27b1
           try clear c28
           try clear c29
           try clear c29b0
           try clear c29b1
           try clear c30
           try clear c30b0
           try clear c30b1
           try clear c32
           try clear c33
           try clear c33b0
           try clear c33b1
           try clear c50
           try clear c55
           try clear c55b0
           try clear c55b1
           try clear c56
           try clear c57
           try clear c57b0
           try clear c57b1
           try clear c58
           try clear c58b0
           try clear c58b1
           try clear p2
           obtain ⟨x21_3, x22_3, x23_3, rfl, rfl, HA, HK3, HO_6, HO_21, HB⟩ := hrel
           cases gk with
           | zero => exact absurd HA.out (by simp [laws_FnUnwound.l0])
           | succ k3 =>
            have H := HA.out
            clear HA
            simp only [laws_FnUnwound.l0] at H
            by_cases c61 : x23_3 < t259
            ·rw [if_pos c61] at H
             have c61b0 : decide (x23_3 < t259) = true := decide_eq_true c61
             clear c61
             by_cases c62 : 0 ≤ x23_3
             ·rw [if_pos c62] at H
              have c62b0 : decide (0 ≤ x23_3) = true := decide_eq_true c62
              clear c62
              by_cases c63 : x23_3 < (x21_3.length : Int)
              ·rw [if_pos c63] at H
               have c63b0 : decide (x23_3 < (x21_3.length : Int)) = true := decide_eq_true c63
               clear c63
               obtain ⟨y290, hy290⟩ : ∃ y_ : List Int, y_ = (x21_3.set (x23_3 : Int).toNat 1) := ⟨_, rfl⟩
               replace H : (laws_FnUnwound.l1 k3 l0 t259 t260 t269 y290 x22_3 x23_3 0) = some r := by first | (rw [hy290]; with_reducible exact H) | (have H2_ := (Option.bind_some _ _).symm.trans H; rw [hy290]; with_reducible exact H2_) | (have H2_ := (Option.bind_some _ _).symm.trans H; with_reducible exact H2_) | with_reducible exact H | (rw [hy290]; exact H) | exact H
               have Ny290 := Aside0.mk hy290
               clear hy290
               have H' := Aside0.mk H
               clear H
               have p64 : 0 ≤ (x23_3 : Int) := of_decide_eq_true (by first | (with_reducible assumption) | assumption)
               have q64 : (x23_3 : Int) < ((x21_3.length : Int) : Int) := of_decide_eq_true (by first | (with_reducible assumption) | assumption)
               obtain ⟨go64, co64, eo64, gb64, gl64, cl64, HG64⟩ := Kd.R_form HO_21.out (by omega)
               (first | cases eo64 | (injection eo64 with ea_ en_ ec_; (first | subst ea_ | (injection ea_ with ea_; subst ea_)); subst ec_; clear en_))
               have GB64 := Aside0.mk gb64
               have GG64 := Aside0.mk HG64
               clear gb64 gl64 HG64
               obtain ⟨hx64_0, hf64_0⟩ := Kd.R_celln 0 HO_21.out (x23_3 : Int) p64 q64
               replace p64 := eq_true p64
               replace q64 := eq_true q64
               have HP65 := Kd.R_putg HO_21.out (x23_3 : Int) 1
               go_wp2_with (first | ((with_reducible refine gate_store (t := 2) (p := 151) rfl ?_); refine store_event (t := 2) (p := 151) (v := ?vo_w66) (w1 := (wr.setCell ⟨go64, (x23_3 : Int).toNat, none⟩ (.int .i64 1))) ?hg ?ho ?hn ?hr ?_; (case ho => rfl); (case hg => rfl); (case hn => rfl); (case hr => first | (go_simp; done) | (go_simp; rfl)); intro w66 hw; have hg : wr.grownBy w66 (some go64) := (by rw [hw]; exact HP65.2); have hp_ : Kd.R (Kd.int .i64) 2 w66 w.heap.size (fun k_ => some k_ ≠ (.slice Ao14 t260.length co14 : Value).ownBlock) (.slice (some ⟨go64, 0, none⟩) x21_3.length co64) y290 := (by rw [hw, Ny290.out]; exact HP65.1); clear HP65; have n0_ := Aside0.mk (Kd.R_after (v := (.slice (some ⟨go64, 0, none⟩) x21_3.length co64)) (v1 := (.slice (some ⟨go64, 0, none⟩) x21_3.length co64)) (ok := (fun _ => True)) (by (with_reducible repeat (first | apply Kd.R_alloc | apply Kd.R_drewN | apply Kd.R_drew)); exact Kd.R_mono HO_6.out (fun _ hk => ⟨trivial, hk⟩)) hg (.inl rfl)); have n1_ := Aside0.mk (hp_); have n2_ := Aside0.mk ((by rw [hw]; exact below_set (HB.out) GB64.out : Below w.heap.size w w66)); clear HO_6; clear HO_21; clear HB; have HO_6 := n0_; have HO_21 := n1_; have HB := n2_; clear n0_ n1_ n2_; clear hg hw hp_))
               go_loopg [24] k3 (fun kq v24 w' => ∃ (x21_4 : List Int) (x24_4 : Int), v24 = .int .i64 x24_4 ∧ Aside0 (laws_FnUnwound.l1 kq l0 t259 t260 t269 x21_4 x22_3 x23_3 x24_4 = some r) ∧ Aside0 (kq ≤ k3) ∧ Aside0 (Kd.R (Kd.int .i64) 2 w' w.heap.size (fun k_ => some k_ ≠ ((.slice (some ⟨go64, 0, none⟩) x21_3.length co64) : Value).ownBlock) (.slice Ao14 t260.length co14) t260) ∧ Aside0 (Kd.R (Kd.int .i64) 2 w' w.heap.size (fun k_ => some k_ ≠ ((.slice Ao14 t260.length co14) : Value).ownBlock) (.slice (some ⟨go64, 0, none⟩) x21_3.length co64) x21_4) ∧ Aside0 (Below w.heap.size w w'))
               case atStart => exact ⟨(y290), (0), (by first | rfl | (simp; done) | (simp [*]; done)), H', ⟨Nat.le_refl _⟩, ⟨by (with_reducible repeat (first | apply Kd.R_alloc | apply Kd.R_drewN | apply Kd.R_drew)); exact Kd.R_mono HO_6.out (fun _ hk => hk.2)⟩, ⟨by (with_reducible repeat (first | apply Kd.R_alloc | apply Kd.R_drewN | apply Kd.R_drew)); exact HO_21.out⟩, ⟨by repeat (first | (with_reducible first | exact HB.out | apply below_alloc | apply pw_below_drewN | apply below_drew1) | exact HB.out)⟩⟩
               case round =>
                clear H'
                try clear c1
                try clear c2
                try clear p2
                try clear c3
                try clear c4
                try clear c5
                try clear c6
                try clear p6
                try clear q6
                try clear hx6
                try clear hf6
                try clear c11
                try clear c12
                try clear c13
                try clear c14
                try clear c15
                try clear c16
                try clear c17
                try clear c18
                try clear c21
                try clear c21b0
                try clear c21b1
                try clear c22
                try clear c22b0
                try clear c22b1
                try clear c24
                try clear c25
                try clear c25b0
                try clear c25b1
                try clear c26
                try clear c26b0
                try clear c26b1
                try clear c27
                try clear c27b0
                try clear c27b1
                try clear c28
                try clear c29
                try clear c29b0
                try clear c29b1
                try clear c30
                try clear c30b0
                try clear c30b1
                try clear c32
                try clear c33
                try clear c33b0
                try clear c33b1
                try clear c50
                try clear c55
                try clear c55b0
                try clear c55b1
                try clear c56
                try clear c57
                try clear c57b0
                try clear c57b1
                try clear c58
                try clear c58b0
                try clear c58b1
                try clear c61
                try clear c61b0
                try clear c62
                try clear c62b0
                try clear c63
                try clear c63b0
                try clear p64
                try clear q64
                try clear hx64
                try clear hf64
                try clear hx64_0
                try clear p2
                try clear p64
                try clear q64
                obtain ⟨x21_4, x24_4, rfl, HA, HK4, HO_6, HO_21, HB⟩ := hrel
                have hl21_4 := (Kd.R_reads' HO_21.out).1
                rw [hl21_4] at HO_21
                (try simp only [hl21_4])
                (try simp only [hl21_4] at HO_6)
                cases gk with
                | zero => exact absurd HA.out (by simp [laws_FnUnwound.l1])
                | succ k4 =>
                 have H := HA.out
                 clear HA
                 simp only [laws_FnUnwound.l1] at H
                 by_cases c67 : x24_4 < x23_3
                 ·rw [if_pos c67] at H
                  have c67b0 : decide (x24_4 < x23_3) = true := decide_eq_true c67
                  clear c67
                  by_cases c68 : 0 ≤ x24_4
                  ·rw [if_pos c68] at H
                   have c68b0 : decide (0 ≤ x24_4) = true := decide_eq_true c68
                   clear c68
                   by_cases c69 : x24_4 < (t260.length : Int)
                   ·rw [if_pos c69] at H
                    have c69b0 : decide (x24_4 < (t260.length : Int)) = true := decide_eq_true c69
                    clear c69
                    by_cases c70 : 0 ≤ x23_3
                    ·rw [if_pos c70] at H
                     have c70b0 : decide (0 ≤ x23_3) = true := decide_eq_true c70
                     clear c70
                     by_cases c71 : x23_3 < (t260.length : Int)
                     ·rw [if_pos c71] at H
                      have c71b0 : decide (x23_3 < (t260.length : Int)) = true := decide_eq_true c71
                      clear c71
                      by_cases c72 : (rd t260 x24_4) < (rd t260 x23_3)
                      ·rw [if_pos c72] at H
                       have c72b0 : decide ((rd t260 x24_4) < (rd t260 x23_3)) = true := decide_eq_true c72
                       clear c72
                       by_cases c73 : x23_3 < (x21_4.length : Int)
                       ·rw [if_pos c73] at H
                        have c73b0 : decide (x23_3 < (x21_4.length : Int)) = true := decide_eq_true c73
                        clear c73
                        by_cases c74 : x24_4 < (x21_4.length : Int)
                        ·rw [if_pos c74] at H
                         have c74b0 : decide (x24_4 < (x21_4.length : Int)) = true := decide_eq_true c74
                         clear c74
                         obtain ⟨ji75, hji75⟩ : ∃ j_ : Int, (mx (rd x21_4 x23_3) (wrap64 ((rd x21_4 x24_4) + 1))) = j_ := ⟨_, rfl⟩
                         replace H : (laws_FnUnwound.l1 k4 l0 t259 t260 t269 (x21_4.set (x23_3 : Int).toNat (ji75)) x22_3 x23_3 (wrap64 (x24_4 + 1))) = some r := by first | (rw [hji75] at H; exact H) | (simp only [hji75] at H ⊢; exact H)
                         have hji75_ : (if (rd x21_4 x23_3) < (wrap64 ((rd x21_4 x24_4) + 1)) then (wrap64 ((rd x21_4 x24_4) + 1)) else (rd x21_4 x23_3)) = ji75 := hji75
                         obtain ⟨y295, hy295⟩ : ∃ y_ : List Int, y_ = (x21_4.set (x23_3 : Int).toNat (ji75)) := ⟨_, rfl⟩
                         replace H : (laws_FnUnwound.l1 k4 l0 t259 t260 t269 y295 x22_3 x23_3 (wrap64 (x24_4 + 1))) = some r := by first | (rw [hy295]; with_reducible exact H) | (have H2_ := (Option.bind_some _ _).symm.trans H; rw [hy295]; with_reducible exact H2_) | (have H2_ := (Option.bind_some _ _).symm.trans H; with_reducible exact H2_) | with_reducible exact H | (rw [hy295]; exact H) | exact H
                         have Ny295 := Aside0.mk hy295
                         clear hy295
                         have H' := Aside0.mk H
                         clear H
                         try go_wp2
                         have n0_ := Aside0.mk (Kd.R_drew HO_6.out)
                         have n1_ := Aside0.mk (Kd.R_drew HO_21.out)
                         have n2_ := Aside0.mk (below_drew1 HB.out)
                         clear HO_6
                         clear HO_21
                         clear HB
                         have HO_6 := n0_
                         have HO_21 := n1_
                         have HB := n2_
                         clear n0_ n1_ n2_
                         have p291 : 0 ≤ (x24_4 : Int) := of_decide_eq_true (by first | (with_reducible assumption) | assumption)
                         have q291 : x24_4 < (t260.length : Int) := of_decide_eq_true (by first | (with_reducible assumption) | assumption)
                         obtain ⟨ad291, e291, hx291_0⟩ := Kd.at_int (Kd.R_reads' HO_6.out).2.2 x24_4 p291 q291
                         cases e291
                         replace p291 := eq_true p291
                         replace q291 := eq_true q291
                         have p292 : 0 ≤ (x23_3 : Int) := of_decide_eq_true (by first | (with_reducible assumption) | assumption)
                         have q292 : x23_3 < (t260.length : Int) := of_decide_eq_true (by first | (with_reducible assumption) | assumption)
                         obtain ⟨ad292, e292, hx292_0⟩ := Kd.at_int (Kd.R_reads' HO_6.out).2.2 x23_3 p292 q292
                         obtain rfl : ad291 = ad292 := (by injection e292)
                         replace p292 := eq_true p292
                         replace q292 := eq_true q292
                         refine start_ (n := 9) (S := fun w' => w'.cell? (ad291.add (x24_4).toNat) = some (.int .i64 (rd t260 x24_4)) ∧ w'.cell? (ad291.add (x23_3).toNat) = some (.int .i64 (rd t260 x23_3))) (ds := []) #[false, false, false, false, false, false, false, false, false] (by kernel_rfl) rfl rfl ⟨hx291_0, hx292_0⟩ (fun hHeld => ?_); refine with_tabW laws_FnUnwound.tab24 laws_FnUnwound.bits24 (fun HT_ HW_ => ?_)
                         generalize wr.drew = w77 at HO_6 HO_21 HB hx291_0 hx292_0 hHeld ⊢
                         refine pure_ (i := 0) (N := some 157) (v := ?_) (a' := ?_) #[true, false, false, false, false, false, false, false, false] rfl rfl (any_of HT_.out (by kernel_rfl)) (fun _ _ _ h => h) (Or.inl ⟨by rfl, ?_⟩) ?_ ?_
                         rotate_left
                         ·intro w'
                          go_simp
                          with_reducible rfl
                         rotate_left
                         ·simp only [Act.put, List.setIfInBounds_toArray, List.set_cons_zero, List.set_cons_succ, i64_w, i32_w]
                          rfl
                         refine pure_ (i := 1) (N := some 158) (v := ?_) (a' := ?_) #[true, true, false, false, false, false, false, false, false] rfl rfl (any_of HT_.out (by kernel_rfl)) (fun _ _ _ h => h) (Or.inl ⟨by rfl, ?_⟩) ?_ ?_
                         rotate_left
                         ·intro w'
                          go_simp
                          with_reducible rfl
                         rotate_left
                         ·simp only [Act.put, List.setIfInBounds_toArray, List.set_cons_zero, List.set_cons_succ, i64_w, i32_w]
                          rfl
                         refine pure_ (i := 2) (N := some 159) (v := ?_) (a' := ?_) #[true, true, true, false, false, false, false, false, false] rfl rfl (any_of HT_.out (by kernel_rfl)) (fun _ _ _ h => h) (Or.inl ⟨by rfl, ?_⟩) ?_ ?_
                         rotate_left
                         ·intro w'
                          go_simp
                          with_reducible rfl
                         rotate_left
                         ·simp only [Act.put, List.setIfInBounds_toArray, List.set_cons_zero, List.set_cons_succ, i64_w, i32_w]
                          rfl
                         refine pure_ (i := 4) (N := some 161) (v := ?_) (a' := ?_) #[true, true, true, false, true, false, false, false, false] rfl rfl (any_of HT_.out (by kernel_rfl)) (fun _ _ _ h => h) (Or.inl ⟨by rfl, ?_⟩) ?_ ?_
                         rotate_left
                         ·intro w'
                          go_simp
                          with_reducible rfl
                         rotate_left
                         ·simp only [Act.put, List.setIfInBounds_toArray, List.set_cons_zero, List.set_cons_succ, i64_w, i32_w]
                          rfl
                         refine pure_ (i := 5) (N := some 162) (v := ?_) (a' := ?_) #[true, true, true, false, true, true, false, false, false] rfl rfl (any_of HT_.out (by kernel_rfl)) (fun _ _ _ h => h) (Or.inl ⟨by rfl, ?_⟩) ?_ ?_
                         rotate_left
                         ·intro w'
                          go_simp
                          with_reducible rfl
                         rotate_left
                         ·simp only [Act.put, List.setIfInBounds_toArray, List.set_cons_zero, List.set_cons_succ, i64_w, i32_w]
                          rfl
                         refine pure_ (i := 6) (N := some 163) (v := ?_) (a' := ?_) #[true, true, true, false, true, true, true, false, false] rfl rfl (any_of HT_.out (by kernel_rfl)) (fun _ _ _ h => h) (Or.inl ⟨by rfl, ?_⟩) ?_ ?_
                         rotate_left
                         ·intro w'
                          go_simp
                          with_reducible rfl
                         rotate_left
                         ·simp only [Act.put, List.setIfInBounds_toArray, List.set_cons_zero, List.set_cons_succ, i64_w, i32_w]
                          rfl
                         refine take_ (i := 3) (N := some 160) (v := ?_) (a' := ?_) #[true, true, true, true, true, true, true, false, false] rfl rfl (take_ofW HT_.out HW_.out (by kernel_rfl)) (fun _ _ _ h => h) (Or.inl ⟨by rfl, ?_⟩) hHeld ?_ ?_
                         rotate_left
                         ·rintro w' ⟨s0, s1⟩
                          go_simp
                          with_reducible rfl
                         rotate_left
                         ·simp only [Act.put, List.setIfInBounds_toArray, List.set_cons_zero, List.set_cons_succ, i64_w, i32_w]
                          rfl
                         refine take_ (i := 7) (N := some 164) (v := ?_) (a' := ?_) #[true, true, true, true, true, true, true, true, false] rfl rfl (take_ofW HT_.out HW_.out (by kernel_rfl)) (fun _ _ _ h => h) (Or.inl ⟨by rfl, ?_⟩) hHeld ?_ ?_
                         rotate_left
                         ·rintro w' ⟨s0, s1⟩
                          go_simp
                          with_reducible rfl
                         rotate_left
                         ·simp only [Act.put, List.setIfInBounds_toArray, List.set_cons_zero, List.set_cons_succ, i64_w, i32_w]
                          rfl
                         refine pure_ (i := 8) (N := some 165) (v := ?_) (a' := ?_) #[true, true, true, true, true, true, true, true, true] rfl rfl (any_of HT_.out (by kernel_rfl)) (fun _ _ _ h => h) (Or.inl ⟨by rfl, ?_⟩) ?_ ?_
                         rotate_left
                         ·intro w'
                          go_simp
                          with_reducible rfl
                         rotate_left
                         ·simp only [Act.put, List.setIfInBounds_toArray, List.set_cons_zero, List.set_cons_succ, i64_w, i32_w]
                          rfl
                         refine done_ (done_of HT_.out (by kernel_rfl)) ?_
                         try go_wp2
                         have n0_ := Aside0.mk (Kd.R_drew HO_6.out)
                         have n1_ := Aside0.mk (Kd.R_drew HO_21.out)
                         have n2_ := Aside0.mk (below_drew1 HB.out)
                         clear HO_6
                         clear HO_21
                         clear HB
                         have HO_6 := n0_
                         have HO_21 := n1_
                         have HB := n2_
                         clear n0_ n1_ n2_
                         have p293 : 0 ≤ (x23_3 : Int) := of_decide_eq_true (by first | (with_reducible assumption) | assumption)
                         have q293 : x23_3 < (x21_4.length : Int) := of_decide_eq_true (by first | (with_reducible assumption) | assumption)
                         obtain ⟨ad293, e293, hx293_0⟩ := Kd.at_int (Kd.R_reads' HO_21.out).2.2 x23_3 p293 q293
                         obtain rfl : (⟨go64, 0, none⟩ : Addr) = ad293 := (by injection e293)
                         (first | simp only [add_plain] at hx293_0 | simp only [add_at] at hx293_0 | simp only [Addr.add, Nat.zero_add] at hx293_0 | skip)
                         replace p293 := eq_true p293
                         replace q293 := eq_true q293
                         have p294 : 0 ≤ (x24_4 : Int) := of_decide_eq_true (by first | (with_reducible assumption) | assumption)
                         have q294 : x24_4 < (x21_4.length : Int) := of_decide_eq_true (by first | (with_reducible assumption) | assumption)
                         obtain ⟨ad294, e294, hx294_0⟩ := Kd.at_int (Kd.R_reads' HO_21.out).2.2 x24_4 p294 q294
                         obtain rfl : (⟨go64, 0, none⟩ : Addr) = ad294 := (by injection e294)
                         (first | simp only [add_plain] at hx294_0 | simp only [add_at] at hx294_0 | simp only [Addr.add, Nat.zero_add] at hx294_0 | skip)
                         replace p294 := eq_true p294
                         replace q294 := eq_true q294
                         have p76 : 0 ≤ (x23_3 : Int) := of_decide_eq_true (by first | (with_reducible assumption) | assumption)
                         have q76 : (x23_3 : Int) < ((x21_4.length : Int) : Int) := of_decide_eq_true (by first | (with_reducible assumption) | assumption)
                         obtain ⟨hx76_0, hf76_0⟩ := Kd.R_celln 0 HO_21.out (x23_3 : Int) p76 q76
                         replace p76 := eq_true p76
                         replace q76 := eq_true q76
                         have HP79 := Kd.R_putn HO_21.out (x23_3 : Int) ji75
                         rw [← Ny295.out] at HP79
                         have HQ79 := Aside0.mk HP79
                         clear HP79
                         refine start_ (n := 14) (S := fun w' => w'.cell? ⟨go64, (x23_3).toNat, none⟩ = some (.int .i64 (rd x21_4 x23_3)) ∧ w'.cell? ⟨go64, (x24_4).toNat, none⟩ = some (.int .i64 (rd x21_4 x24_4))) (ds := [13]) #[false, false, false, false, false, false, false, false, false, false, false, false, false, false] (by kernel_rfl) rfl rfl ⟨hx293_0, hx294_0⟩ (fun hHeld => ?_); refine with_tabW laws_FnUnwound.tab25 laws_FnUnwound.bits25 (fun HT_ HW_ => ?_)
                         generalize w77.drew = w78 at HO_6 HO_21 HB HQ79 hf76_0 hx293_0 hx294_0 hx76_0 hHeld ⊢
                         refine pure_ (i := 0) (N := some 166) (v := ?_) (a' := ?_) #[true, false, false, false, false, false, false, false, false, false, false, false, false, false] rfl rfl (any_of HT_.out (by kernel_rfl)) (fun _ _ _ h => h) (Or.inl ⟨by rfl, ?_⟩) ?_ ?_
                         rotate_left
                         ·intro w'
                          go_simp
                          with_reducible rfl
                         rotate_left
                         ·simp only [Act.put, List.setIfInBounds_toArray, List.set_cons_zero, List.set_cons_succ, i64_w, i32_w]
                          rfl
                         refine pure_ (i := 1) (N := some 167) (v := ?_) (a' := ?_) #[true, true, false, false, false, false, false, false, false, false, false, false, false, false] rfl rfl (any_of HT_.out (by kernel_rfl)) (fun _ _ _ h => h) (Or.inl ⟨by rfl, ?_⟩) ?_ ?_
                         rotate_left
                         ·intro w'
                          go_simp
                          with_reducible rfl
                         rotate_left
                         ·simp only [Act.put, List.setIfInBounds_toArray, List.set_cons_zero, List.set_cons_succ, i64_w, i32_w]
                          rfl
                         refine pure_ (i := 2) (N := some 168) (v := ?_) (a' := ?_) #[true, true, true, false, false, false, false, false, false, false, false, false, false, false] rfl rfl (any_of HT_.out (by kernel_rfl)) (fun _ _ _ h => h) (Or.inl ⟨by rfl, ?_⟩) ?_ ?_
                         rotate_left
                         ·intro w'
                          go_simp
                          with_reducible rfl
                         rotate_left
                         ·simp only [Act.put, List.setIfInBounds_toArray, List.set_cons_zero, List.set_cons_succ, i64_w, i32_w]
                          rfl
                         refine pure_ (i := 3) (N := some 169) (v := ?_) (a' := ?_) #[true, true, true, true, false, false, false, false, false, false, false, false, false, false] rfl rfl (any_of HT_.out (by kernel_rfl)) (fun _ _ _ h => h) (Or.inl ⟨by rfl, ?_⟩) ?_ ?_
                         rotate_left
                         ·intro w'
                          go_simp
                          with_reducible rfl
                         rotate_left
                         ·simp only [Act.put, List.setIfInBounds_toArray, List.set_cons_zero, List.set_cons_succ, i64_w, i32_w]
                          rfl
                         refine pure_ (i := 4) (N := some 170) (v := ?_) (a' := ?_) #[true, true, true, true, true, false, false, false, false, false, false, false, false, false] rfl rfl (any_of HT_.out (by kernel_rfl)) (fun _ _ _ h => h) (Or.inl ⟨by rfl, ?_⟩) ?_ ?_
                         rotate_left
                         ·intro w'
                          go_simp
                          with_reducible rfl
                         rotate_left
                         ·simp only [Act.put, List.setIfInBounds_toArray, List.set_cons_zero, List.set_cons_succ, i64_w, i32_w]
                          rfl
                         refine pure_ (i := 6) (N := some 172) (v := ?_) (a' := ?_) #[true, true, true, true, true, false, true, false, false, false, false, false, false, false] rfl rfl (any_of HT_.out (by kernel_rfl)) (fun _ _ _ h => h) (Or.inl ⟨by rfl, ?_⟩) ?_ ?_
                         rotate_left
                         ·intro w'
                          go_simp
                          with_reducible rfl
                         rotate_left
                         ·simp only [Act.put, List.setIfInBounds_toArray, List.set_cons_zero, List.set_cons_succ, i64_w, i32_w]
                          rfl
                         refine pure_ (i := 7) (N := some 173) (v := ?_) (a' := ?_) #[true, true, true, true, true, false, true, true, false, false, false, false, false, false] rfl rfl (any_of HT_.out (by kernel_rfl)) (fun _ _ _ h => h) (Or.inl ⟨by rfl, ?_⟩) ?_ ?_
                         rotate_left
                         ·intro w'
                          go_simp
                          with_reducible rfl
                         rotate_left
                         ·simp only [Act.put, List.setIfInBounds_toArray, List.set_cons_zero, List.set_cons_succ, i64_w, i32_w]
                          rfl
                         refine pure_ (i := 8) (N := some 174) (v := ?_) (a' := ?_) #[true, true, true, true, true, false, true, true, true, false, false, false, false, false] rfl rfl (any_of HT_.out (by kernel_rfl)) (fun _ _ _ h => h) (Or.inl ⟨by rfl, ?_⟩) ?_ ?_
                         rotate_left
                         ·intro w'
                          go_simp
                          with_reducible rfl
                         rotate_left
                         ·simp only [Act.put, List.setIfInBounds_toArray, List.set_cons_zero, List.set_cons_succ, i64_w, i32_w]
                          rfl
                         refine take_ (i := 5) (N := some 171) (v := ?_) (a' := ?_) #[true, true, true, true, true, true, true, true, true, false, false, false, false, false] rfl rfl (take_ofW HT_.out HW_.out (by kernel_rfl)) (fun _ _ _ h => h) (Or.inl ⟨by rfl, ?_⟩) hHeld ?_ ?_
                         rotate_left
                         ·rintro w' ⟨s0, s1⟩
                          go_simp
                          with_reducible rfl
                         rotate_left
                         ·simp only [Act.put, List.setIfInBounds_toArray, List.set_cons_zero, List.set_cons_succ, i64_w, i32_w]
                          rfl
                         refine take_ (i := 9) (N := some 175) (v := ?_) (a' := ?_) #[true, true, true, true, true, true, true, true, true, true, false, false, false, false] rfl rfl (take_ofW HT_.out HW_.out (by kernel_rfl)) (fun _ _ _ h => h) (Or.inl ⟨by rfl, ?_⟩) hHeld ?_ ?_
                         rotate_left
                         ·rintro w' ⟨s0, s1⟩
                          go_simp
                          with_reducible rfl
                         rotate_left
                         ·simp only [Act.put, List.setIfInBounds_toArray, List.set_cons_zero, List.set_cons_succ, i64_w, i32_w]
                          rfl
                         refine pure_ (i := 10) (N := some 176) (v := ?_) (a' := ?_) #[true, true, true, true, true, true, true, true, true, true, true, false, false, false] rfl rfl (any_of HT_.out (by kernel_rfl)) (fun _ _ _ h => h) (Or.inl ⟨by rfl, ?_⟩) ?_ ?_
                         rotate_left
                         ·intro w'
                          go_simp
                          with_reducible rfl
                         rotate_left
                         ·simp only [Act.put, List.setIfInBounds_toArray, List.set_cons_zero, List.set_cons_succ, i64_w, i32_w]
                          rfl
                         refine pure_ (i := 11) (N := some 177) (v := ?_) (a' := ?_) #[true, true, true, true, true, true, true, true, true, true, true, true, false, false] rfl rfl (any_of HT_.out (by kernel_rfl)) (fun _ _ _ h => h) (Or.inl ⟨by rfl, ?_⟩) ?_ ?_
                         rotate_left
                         ·intro w'
                          go_simp
                          with_reducible rfl
                         rotate_left
                         ·simp only [Act.put, List.setIfInBounds_toArray, List.set_cons_zero, List.set_cons_succ, i64_w, i32_w]
                          rfl
                         refine pure_ (i := 12) (N := some 178) (v := ?_) (a' := ?_) #[true, true, true, true, true, true, true, true, true, true, true, true, true, false] rfl rfl (any_of HT_.out (by kernel_rfl)) (fun _ _ _ h => h) (Or.inl ⟨by rfl, ?_⟩) ?_ ?_
                         rotate_left
                         ·intro w'
                          go_simp
                          with_reducible rfl
                         rotate_left
                         ·simp only [Act.put, List.setIfInBounds_toArray, List.set_cons_zero, List.set_cons_succ, i64_w, i32_w]
                          rfl
                         refine last_ (i := 13) (N := none) #[true, true, true, true, true, true, true, true, true, true, true, true, true, true] rfl rfl (one_of HT_.out (by kernel_rfl)) (by decide) (fun K hK => ?_)
                         refine skip_ (w1 := ?_) (by rfl) rfl ?_ ?_
                         rotate_left
                         ·go_simp
                          rfl
                         refine hK.out _ _ ?_
                         clear hK K
                         refine done_ (done_of HT_.out (by kernel_rfl)) ?_
                         try go_wp2
                         (try simp only [← hl21_4])
                         go_roundg k4
                         case measure => have := HJ11.out; have := HJ51.out; have := HK3.out; have := HK4.out; omega
                         case rel => exact ⟨(y295), (wrap64 (x24_4 + 1)), (by first | rfl | (simp; done) | (simp [*]; done)), H', ⟨by have := HJ11.out; have := HJ51.out; have := HK3.out; have := HK4.out; omega⟩, ⟨by (try simp only [hl21_4]); (with_reducible repeat (first | apply Kd.R_alloc | apply Kd.R_drewN | apply Kd.R_drew)); exact Kd.R_mono (Kd.R_far (p := ⟨go64, (x23_3 : Int).toNat, none⟩) (Kd.R_mono HO_6.out (fun k_ hk => (⟨hk, fun e_ => hk (by rw [e_]; rfl)⟩ : _ ∧ k_ ≠ go64))) (fun _ hk => hk.2) (.int .i64 ji75)) (fun _ hk => hk.1)⟩, ⟨by (try simp only [hl21_4]); (with_reducible repeat (first | apply Kd.R_alloc | apply Kd.R_drewN | apply Kd.R_drew)); exact HQ79.out⟩, ⟨by repeat (first | (with_reducible first | exact HB.out | apply below_alloc | apply pw_below_drewN | apply below_drew1 | refine below_set ?_ GB64.out) | exact HB.out)⟩⟩
                        ·rw [if_neg c74] at H
                         exact absurd H (by simp)
                       ·rw [if_neg c73] at H
                        exact absurd H (by simp)
                      ·rw [if_neg c72] at H
                       have c72b0 : decide ((rd t260 x24_4) < (rd t260 x23_3)) = false := decide_eq_false c72
                       clear c72
                       have H' := Aside0.mk H
                       clear H
                       try go_wp2
                       have n0_ := Aside0.mk (Kd.R_drew HO_6.out)
                       have n1_ := Aside0.mk (Kd.R_drew HO_21.out)
                       have n2_ := Aside0.mk (below_drew1 HB.out)
                       clear HO_6
                       clear HO_21
                       clear HB
                       have HO_6 := n0_
                       have HO_21 := n1_
                       have HB := n2_
                       clear n0_ n1_ n2_
                       have p291 : 0 ≤ (x24_4 : Int) := of_decide_eq_true (by first | (with_reducible assumption) | assumption)
                       have q291 : x24_4 < (t260.length : Int) := of_decide_eq_true (by first | (with_reducible assumption) | assumption)
                       obtain ⟨ad291, e291, hx291_0⟩ := Kd.at_int (Kd.R_reads' HO_6.out).2.2 x24_4 p291 q291
                       cases e291
                       replace p291 := eq_true p291
                       replace q291 := eq_true q291
                       have p292 : 0 ≤ (x23_3 : Int) := of_decide_eq_true (by first | (with_reducible assumption) | assumption)
                       have q292 : x23_3 < (t260.length : Int) := of_decide_eq_true (by first | (with_reducible assumption) | assumption)
                       obtain ⟨ad292, e292, hx292_0⟩ := Kd.at_int (Kd.R_reads' HO_6.out).2.2 x23_3 p292 q292
                       obtain rfl : ad291 = ad292 := (by injection e292)
                       replace p292 := eq_true p292
                       replace q292 := eq_true q292
                       refine start_ (n := 9) (S := fun w' => w'.cell? (ad291.add (x24_4).toNat) = some (.int .i64 (rd t260 x24_4)) ∧ w'.cell? (ad291.add (x23_3).toNat) = some (.int .i64 (rd t260 x23_3))) (ds := []) #[false, false, false, false, false, false, false, false, false] (by kernel_rfl) rfl rfl ⟨hx291_0, hx292_0⟩ (fun hHeld => ?_); refine with_tabW laws_FnUnwound.tab24 laws_FnUnwound.bits24 (fun HT_ HW_ => ?_)
                       generalize wr.drew = w80 at HO_6 HO_21 HB hx291_0 hx292_0 hHeld ⊢
                       refine pure_ (i := 0) (N := some 157) (v := ?_) (a' := ?_) #[true, false, false, false, false, false, false, false, false] rfl rfl (any_of HT_.out (by kernel_rfl)) (fun _ _ _ h => h) (Or.inl ⟨by rfl, ?_⟩) ?_ ?_
                       rotate_left
                       ·intro w'
                        go_simp
                        with_reducible rfl
                       rotate_left
                       ·simp only [Act.put, List.setIfInBounds_toArray, List.set_cons_zero, List.set_cons_succ, i64_w, i32_w]
                        rfl
                       refine pure_ (i := 1) (N := some 158) (v := ?_) (a' := ?_) #[true, true, false, false, false, false, false, false, false] rfl rfl (any_of HT_.out (by kernel_rfl)) (fun _ _ _ h => h) (Or.inl ⟨by rfl, ?_⟩) ?_ ?_
                       rotate_left
                       ·intro w'
                        go_simp
                        with_reducible rfl
                       rotate_left
                       ·simp only [Act.put, List.setIfInBounds_toArray, List.set_cons_zero, List.set_cons_succ, i64_w, i32_w]
                        rfl
                       refine pure_ (i := 2) (N := some 159) (v := ?_) (a' := ?_) #[true, true, true, false, false, false, false, false, false] rfl rfl (any_of HT_.out (by kernel_rfl)) (fun _ _ _ h => h) (Or.inl ⟨by rfl, ?_⟩) ?_ ?_
                       rotate_left
                       ·intro w'
                        go_simp
                        with_reducible rfl
                       rotate_left
                       ·simp only [Act.put, List.setIfInBounds_toArray, List.set_cons_zero, List.set_cons_succ, i64_w, i32_w]
                        rfl
                       refine pure_ (i := 4) (N := some 161) (v := ?_) (a' := ?_) #[true, true, true, false, true, false, false, false, false] rfl rfl (any_of HT_.out (by kernel_rfl)) (fun _ _ _ h => h) (Or.inl ⟨by rfl, ?_⟩) ?_ ?_
                       rotate_left
                       ·intro w'
                        go_simp
                        with_reducible rfl
                       rotate_left
                       ·simp only [Act.put, List.setIfInBounds_toArray, List.set_cons_zero, List.set_cons_succ, i64_w, i32_w]
                        rfl
                       refine pure_ (i := 5) (N := some 162) (v := ?_) (a' := ?_) #[true, true, true, false, true, true, false, false, false] rfl rfl (any_of HT_.out (by kernel_rfl)) (fun _ _ _ h => h) (Or.inl ⟨by rfl, ?_⟩) ?_ ?_
                       rotate_left
                       ·intro w'
                        go_simp
                        with_reducible rfl
                       rotate_left
                       ·simp only [Act.put, List.setIfInBounds_toArray, List.set_cons_zero, List.set_cons_succ, i64_w, i32_w]
                        rfl
                       refine pure_ (i := 6) (N := some 163) (v := ?_) (a' := ?_) #[true, true, true, false, true, true, true, false, false] rfl rfl (any_of HT_.out (by kernel_rfl)) (fun _ _ _ h => h) (Or.inl ⟨by rfl, ?_⟩) ?_ ?_
                       rotate_left
                       ·intro w'
                        go_simp
                        with_reducible rfl
                       rotate_left
                       ·simp only [Act.put, List.setIfInBounds_toArray, List.set_cons_zero, List.set_cons_succ, i64_w, i32_w]
                        rfl
                       refine take_ (i := 3) (N := some 160) (v := ?_) (a' := ?_) #[true, true, true, true, true, true, true, false, false] rfl rfl (take_ofW HT_.out HW_.out (by kernel_rfl)) (fun _ _ _ h => h) (Or.inl ⟨by rfl, ?_⟩) hHeld ?_ ?_
                       rotate_left
                       ·rintro w' ⟨s0, s1⟩
                        go_simp
                        with_reducible rfl
                       rotate_left
                       ·simp only [Act.put, List.setIfInBounds_toArray, List.set_cons_zero, List.set_cons_succ, i64_w, i32_w]
                        rfl
                       refine take_ (i := 7) (N := some 164) (v := ?_) (a' := ?_) #[true, true, true, true, true, true, true, true, false] rfl rfl (take_ofW HT_.out HW_.out (by kernel_rfl)) (fun _ _ _ h => h) (Or.inl ⟨by rfl, ?_⟩) hHeld ?_ ?_
                       rotate_left
                       ·rintro w' ⟨s0, s1⟩
                        go_simp
                        with_reducible rfl
                       rotate_left
                       ·simp only [Act.put, List.setIfInBounds_toArray, List.set_cons_zero, List.set_cons_succ, i64_w, i32_w]
                        rfl
                       refine pure_ (i := 8) (N := some 165) (v := ?_) (a' := ?_) #[true, true, true, true, true, true, true, true, true] rfl rfl (any_of HT_.out (by kernel_rfl)) (fun _ _ _ h => h) (Or.inl ⟨by rfl, ?_⟩) ?_ ?_
                       rotate_left
                       ·intro w'
                        go_simp
                        with_reducible rfl
                       rotate_left
                       ·simp only [Act.put, List.setIfInBounds_toArray, List.set_cons_zero, List.set_cons_succ, i64_w, i32_w]
                        rfl
                       refine done_ (done_of HT_.out (by kernel_rfl)) ?_
                       try go_wp2
                       (try simp only [← hl21_4])
                       go_roundg k4
                       case measure => have := HJ11.out; have := HJ51.out; have := HK3.out; have := HK4.out; omega
                       case rel => exact ⟨(x21_4), (wrap64 (x24_4 + 1)), (by first | rfl | (simp; done) | (simp [*]; done)), H', ⟨by have := HJ11.out; have := HJ51.out; have := HK3.out; have := HK4.out; omega⟩, ⟨by (try simp only [hl21_4]); (with_reducible repeat (first | apply Kd.R_alloc | apply Kd.R_drewN | apply Kd.R_drew)); exact HO_6.out⟩, ⟨by (try simp only [hl21_4]); (with_reducible repeat (first | apply Kd.R_alloc | apply Kd.R_drewN | apply Kd.R_drew)); exact HO_21.out⟩, ⟨by repeat (first | (with_reducible first | exact HB.out | apply below_alloc | apply pw_below_drewN | apply below_drew1) | exact HB.out)⟩⟩
                     ·rw [if_neg c71] at H
                      exact absurd H (by simp)
                    ·rw [if_neg c70] at H
                     exact absurd H (by simp)
                   ·rw [if_neg c69] at H
                    exact absurd H (by simp)
                  ·rw [if_neg c68] at H
                   exact absurd H (by simp)
                 ·rw [if_neg c67] at H
                  have c67b0 : decide (x24_4 < x23_3) = false := decide_eq_false c67
                  clear c67
                  by_cases c81 : 0 ≤ x23_3
                  ·rw [if_pos c81] at H
                   have c81b0 : decide (0 ≤ x23_3) = true := decide_eq_true c81
                   clear c81
                   by_cases c82 : x23_3 < (x21_4.length : Int)
                   ·rw [if_pos c82] at H
                    have c82b0 : decide (x23_3 < (x21_4.length : Int)) = true := decide_eq_true c82
                    clear c82
                    obtain ⟨ji83, hji83⟩ : ∃ j_ : Int, (mx x22_3 (rd x21_4 x23_3)) = j_ := ⟨_, rfl⟩
                    replace H : (laws_FnUnwound.l0 k4 l0 t259 t260 t269 x21_4 ji83 (wrap64 (x23_3 + 1))) = some r := by first | (rw [hji83] at H; exact H) | (simp only [hji83] at H ⊢; exact H)
                    have hji83_ : (if x22_3 < (rd x21_4 x23_3) then (rd x21_4 x23_3) else x22_3) = ji83 := hji83
                    have H' := Aside0.mk H
                    clear H
                    have p296 : 0 ≤ (x23_3 : Int) := of_decide_eq_true (by first | (with_reducible assumption) | assumption)
                    have q296 : x23_3 < (x21_4.length : Int) := of_decide_eq_true (by first | (with_reducible assumption) | assumption)
                    obtain ⟨ad296, e296, hx296_0⟩ := Kd.at_int (Kd.R_reads' HO_21.out).2.2 x23_3 p296 q296
                    obtain rfl : (⟨go64, 0, none⟩ : Addr) = ad296 := (by injection e296)
                    (first | simp only [add_plain] at hx296_0 | simp only [add_at] at hx296_0 | simp only [Addr.add, Nat.zero_add] at hx296_0 | skip)
                    replace p296 := eq_true p296
                    replace q296 := eq_true q296
                    go_wp2
                    (try simp only [← hl21_4])
                    go_roundg k4
                    case measure => have := HJ11.out; have := HJ51.out; have := HK3.out; have := HK4.out; omega
                    case rel => exact ⟨(x21_4), (ji83), (wrap64 (x23_3 + 1)), (by first | rfl | (simp; done) | (simp only [← hji83] <;> (first | rfl | simp)) | (simp [*]; done)), (by first | rfl | (simp; done) | (simp [*]; done)), H', ⟨by have := HJ11.out; have := HJ51.out; have := HK3.out; have := HK4.out; omega⟩, ⟨by (try simp only [hl21_4]); (with_reducible repeat (first | apply Kd.R_alloc | apply Kd.R_drewN | apply Kd.R_drew)); exact HO_6.out⟩, ⟨by (try simp only [hl21_4]); (with_reducible repeat (first | apply Kd.R_alloc | apply Kd.R_drewN | apply Kd.R_drew)); exact HO_21.out⟩, ⟨by repeat (first | (with_reducible first | exact HB.out | apply below_alloc | apply pw_below_drewN | apply below_drew1) | exact HB.out)⟩⟩
                   ·rw [if_neg c82] at H
                    exact absurd H (by simp)
                  ·rw [if_neg c81] at H
                   exact absurd H (by simp)
              ·rw [if_neg c63] at H
               exact absurd H (by simp)
             ·rw [if_neg c62] at H
              exact absurd H (by simp)
            ·rw [if_neg c61] at H
             have c61b0 : decide (x23_3 < t259) = false := decide_eq_false c61
             clear c61
             by_cases c84 : x22_3 = t269
             ·rw [if_pos c84] at H
              have c84b0 : (x22_3 == t269) = true := beq_iff_eq.mpr c84
              have c84b1 : (x22_3 != t269) = false := bne_eq_false_iff_eq.mpr c84
              clear c84
              obtain ⟨y297, hy297⟩ : ∃ y_ : List Int, y_ = (([] : List Int)) := ⟨_, rfl⟩
              replace H : (laws_FnUnwound.l2 k3 l0 t259 t260 y297 0) = some r := by first | (rw [hy297]; with_reducible exact H) | (have H2_ := (Option.bind_some _ _).symm.trans H; rw [hy297]; with_reducible exact H2_) | (have H2_ := (Option.bind_some _ _).symm.trans H; with_reducible exact H2_) | with_reducible exact H | (rw [hy297]; exact H) | exact H
              have Ny297 := Aside0.mk hy297
              clear hy297
              have H' := Aside0.mk H
              clear H
              go_wp2_with (first | ((with_reducible refine gate_dst (N := 188) rfl ?_); (try (refine gate_guard (by rfl) ?_; dsimp only)); refine Kd.R_lit (Kd.int .i64) _ 2 ?hg (N := 188) ?hd (xs := ([] : List Int)) (inner := []) (ok := fun _ => True) (okp := fun _ => True) ?hr ?hp (fun _ hk => hk) trivial (Below.refl _ _) (Nat.le_refl _) (by simp) ?_; (case hd => rfl); (case hg => rfl); (case hr => first | (go_simp; done) | (go_simp; rfl)); (case hp => exact (Reps.none _ _)); intro v298 w85 ho86 hb hg_ hnew_; clear hg_ hnew_; (first | rw [← Ny297.out] at ho86 | (simp only [Int.reduceToNat] at ho86; rw [← Ny297.out] at ho86)); have n0_ := Aside0.mk (Kd.R_elder' (by (with_reducible repeat (first | apply Kd.R_alloc | apply Kd.R_drewN | apply Kd.R_drew)); exact HO_6.out) (Kd.R_base ho86) hb); have n1_ := Aside0.mk (Kd.R_elder' (by (with_reducible repeat (first | apply Kd.R_alloc | apply Kd.R_drewN | apply Kd.R_drew)); exact HO_21.out) (Kd.R_base ho86) hb); have n2_ := Aside0.mk (Kd.R_lower (Kd.R_new' (Kd.R_new' ho86 (Kd.R_lt (by (with_reducible repeat (first | apply Kd.R_alloc | apply Kd.R_drewN | apply Kd.R_drew)); exact HO_6.out))) (Kd.R_lt (by (with_reducible repeat (first | apply Kd.R_alloc | apply Kd.R_drewN | apply Kd.R_drew)); exact HO_21.out))) (below_size (by repeat (first | (with_reducible first | exact HB.out | apply below_alloc | apply pw_below_drewN | apply below_drew1) | exact HB.out)))); have n3_ := Aside0.mk (below_step (by repeat (first | (with_reducible first | exact HB.out | apply below_alloc | apply pw_below_drewN | apply below_drew1) | exact HB.out)) hb); clear HO_6; clear HO_21; clear HB; have HO_6 := n0_; have HO_21 := n1_; have HO299 := n2_; have HB := n3_; clear n0_ n1_ n2_ n3_; clear hb ho86))
              go_loopg [25, 26] k3 (fun kq v25 v26 w' => ∃ (x25_4 : List Int) (x26_4 : Int), v26 = .int .i64 x26_4 ∧ Aside0 (laws_FnUnwound.l2 kq l0 t259 t260 x25_4 x26_4 = some r) ∧ Aside0 (kq ≤ k3) ∧ Aside0 (Kd.R (Kd.int .i64) 2 w' w.heap.size (fun k_ => some k_ ≠ (v25 : Value).ownBlock) (.slice Ao14 t260.length co14) t260) ∧ Aside0 (Kd.R (Kd.int .i64) 2 w' w.heap.size (fun k_ => some k_ ≠ ((.slice Ao14 t260.length co14) : Value).ownBlock) v25 x25_4) ∧ Aside0 (Below w.heap.size w w'))
              case atStart => exact ⟨(y297), (0), (by first | rfl | (simp; done) | (simp [*]; done)), H', ⟨Nat.le_refl _⟩, ⟨by (with_reducible repeat (first | apply Kd.R_alloc | apply Kd.R_drewN | apply Kd.R_drew)); exact Kd.R_mono HO_6.out (fun _ hk => hk.2)⟩, ⟨by (with_reducible repeat (first | apply Kd.R_alloc | apply Kd.R_drewN | apply Kd.R_drew)); exact Kd.R_mono HO299.out (fun _ hk => hk.1.2)⟩, ⟨by repeat (first | (with_reducible first | exact HB.out | apply below_alloc | apply pw_below_drewN | apply below_drew1) | exact HB.out)⟩⟩
              case round =>
               clear H'
               try clear c1
               try clear c2
               try clear p2
               try clear q2
               try clear hx2
               try clear c3
               try clear c4
               try clear c5
               try clear c6
               try clear p6
               try clear q6
               try clear hx6
               try clear hf6
               try clear c7
               try clear p7
               try clear q7
               try clear hx7
               try clear hf7
               try clear c8
               try clear c11
               try clear c12
               try clear c13
               try clear c14
               try clear c15
               try clear c16
               try clear c17
               try clear c18
               try clear c21
               try clear c21b0
               try clear c21b1
               try clear c22
               try clear c22b0
               try clear c22b1
               try clear c24
               try clear c25
               try clear c25b0
               try clear c25b1
               try clear c26
               try clear c26b0
               try clear c26b1
               try clear c27
               try clear c27b0
               try clear c27b1
               try clear c28
               try clear c29
               try clear c29b0
               try clear c29b1
               try clear p29
               try clear q29
               try clear hx29
               try clear c30
               try clear c30b0
               try clear c30b1
               try clear c32
               try clear c33
               try clear c33b0
               try clear c33b1
               try clear c50
               try clear c55
               try clear c55b0
               try clear c55b1
               try clear c56
               try clear c57
               try clear c57b0
               try clear c57b1
               try clear c58
               try clear c58b0
               try clear c58b1
               try clear c61
               try clear c61b0
               try clear c62
               try clear c62b0
               try clear c63
               try clear c63b0
               try clear p64
               try clear q64
               try clear hx64
               try clear hf64
               try clear c67
               try clear c67b0
               try clear c68
               try clear c68b0
               try clear c69
               try clear c69b0
               try clear c70
               try clear c70b0
               try clear c71
               try clear c71b0
               try clear c72
               try clear c72b0
               try clear c73
               try clear c73b0
               try clear c74
               try clear c74b0
               try clear p76
               try clear q76
               try clear hx76
               try clear hf76
               try clear c81
               try clear c81b0
               try clear c82
               try clear c82b0
               try clear c84
               try clear c84b0
               try clear c84b1
               try clear hx291_0
               try clear hx292_0
               try clear hx293_0
               try clear hx294_0
               try clear hx296_0
               try clear hx64_0
               try clear hx76_0
               try clear p2
               try clear p291
               try clear p292
               try clear p293
               try clear p294
               try clear p296
               try clear p6
               try clear p64
               try clear p76
               try clear q291
               try clear q292
               try clear q293
               try clear q294
               try clear q296
               try clear q6
               try clear q64
               try clear q76
               obtain ⟨x25_4, x26_4, rfl, HA, HK4, HO_6, HO_25, HB⟩ := hrel
               cases gk with
               | zero => exact absurd HA.out (by simp [laws_FnUnwound.l2])
               | succ k4 =>
                have H := HA.out
                clear HA
                simp only [laws_FnUnwound.l2] at H
                by_cases c87 : x26_4 < t259
                ·rw [if_pos c87] at H
                 have c87b0 : decide (x26_4 < t259) = true := decide_eq_true c87
                 clear c87
                 replace H := Option.bind_eq_some_iff.mp H
                 obtain ⟨t300, A880, H⟩ := H
                 replace H : (if x25_4.length < 17592186044416 then (laws_FnUnwound.l2 k4 l0 t259 t260 (x25_4 ++ [t300]) (wrap64 (x26_4 + 1))) else (none)) = some r := H
                 have A88 := Aside0.mk A880
                 clear A880
                 by_cases c89 : x25_4.length < 17592186044416
                 ·rw [if_pos c89] at H
                  have LMc89 := Aside0.mk c89
                  clear c89
                  obtain ⟨y301, hy301⟩ : ∃ y_ : List Int, y_ = (x25_4 ++ [t300]) := ⟨_, rfl⟩
                  replace H : (laws_FnUnwound.l2 k4 l0 t259 t260 y301 (wrap64 (x26_4 + 1))) = some r := by first | (rw [hy301]; with_reducible exact H) | (have H2_ := (Option.bind_some _ _).symm.trans H; rw [hy301]; with_reducible exact H2_) | (have H2_ := (Option.bind_some _ _).symm.trans H; with_reducible exact H2_) | with_reducible exact H | (rw [hy301]; exact H) | exact H
                  have Ny301 := Aside0.mk hy301
                  clear hy301
                  have H' := Aside0.mk H
                  clear H
                  go_wp2_with (first | ((with_reducible refine gate_callee (f := 12) rfl ?_); refine goesL_ (some 198) rfl rfl Try.func12 (by kernel_rfl) rfl #[.slice A0 l0.length c0, .int .i64 (wrap64 (x26_4 + 1)), .int .i64 3] rfl (by (try simp only [List.map_toArray, List.map_cons, List.map_nil]); first | done | rfl | (simp only [List.length_drop, List.length_take]; rfl)) ?_; (with_reducible refine (laws_a2At.calls _ _ l0 (wrap64 (x26_4 + 1)) 3 t300 _ ?side1 ?side2 A88.out).mono ?_); (case side1 => repeat (first | exact (Kd.C_below HR0.out HB.out) | (with_reducible refine Kd.C_alloc ?_ _) | (with_reducible refine Kd.C_drewN ?_ _) | (with_reducible refine Kd.C_drew ?_))); (case side2 => exact HC0.out); rintro e w' ⟨rfl, ⟨nd, rfl⟩⟩; refine ⟨_, rfl, ?_⟩) | ((with_reducible refine gate_builtin (b := .append) (xs := #[.tmp 194, .tmp 199]) rfl ?_); (try (refine gate_guard (by rfl) ?_; dsimp only)); at_builtin; refine Kd.R_append (Kd.int .i64) (w0 := w) w.heap.size rfl (.tmp 194) (.tmp 199) 25 2 (.int .i64 0) 8 rfl Try.underlying25 info2 rfl (by decide) (by omega) u25 x25_4 t300 [.int .i64 t300] (fun k_ => some k_ ≠ (.slice Ao14 t260.length co14 : Value).ownBlock) (fun _ => False) rfl rfl ?aP (fun _ hk => hk.elim) ?aF ?aO ?aB ?aS ?aL ?_; (case aP => exact rfl); (case aB => exact (by repeat (first | (with_reducible first | exact HB.out | apply below_alloc | apply pw_below_drewN | apply below_drew1) | exact HB.out))); (case aF => exact (fun k_ hk => Kd.fresh' (Kd.R_lt (by (with_reducible repeat (first | apply Kd.R_alloc | apply Kd.R_drewN | apply Kd.R_drew)); exact HO_6.out)) k_ hk)); (case aO => exact (by (with_reducible repeat (first | apply Kd.R_alloc | apply Kd.R_drewN | apply Kd.R_drew)); exact HO_25.out)); (case aS => exact (below_size (by repeat (first | (with_reducible first | exact HB.out | apply below_alloc | apply pw_below_drewN | apply below_drew1) | exact HB.out)))); (case aL => have := LMc89.out; omega); intro v302 w90 ho hb hg hat; rw [← Ny301.out] at ho; have n0_ := Aside0.mk (Kd.R_after (ok := (fun _ => True)) (by (with_reducible repeat (first | apply Kd.R_alloc | apply Kd.R_drewN | apply Kd.R_drew)); exact Kd.R_mono HO_6.out (fun _ hk => ⟨trivial, hk⟩)) hg hat); have n1_ := Aside0.mk (hb); have n2_ := Aside0.mk (ho); (try clear HO_6); clear HB; (try clear HO_25); have HO_6 := n0_; have HB := n1_; have HO303 := n2_; clear n0_ n1_ n2_; clear ho hb hg hat))
                  go_roundg k4
                  case measure => have := HJ11.out; have := HJ51.out; have := HK3.out; have := HK4.out; omega
                  case rel => exact ⟨(y301), (wrap64 (x26_4 + 1)), (by first | rfl | (simp; done) | (simp [*]; done)), H', ⟨by have := HJ11.out; have := HJ51.out; have := HK3.out; have := HK4.out; omega⟩, ⟨by (with_reducible repeat (first | apply Kd.R_alloc | apply Kd.R_drewN | apply Kd.R_drew)); exact Kd.R_mono HO_6.out (fun _ hk => hk.2)⟩, ⟨by (with_reducible repeat (first | apply Kd.R_alloc | apply Kd.R_drewN | apply Kd.R_drew)); exact HO303.out⟩, ⟨by repeat (first | (with_reducible first | exact HB.out | apply below_alloc | apply pw_below_drewN | apply below_drew1) | exact HB.out)⟩⟩
                 ·rw [if_neg c89] at H
                  exact absurd H (by simp)
                ·rw [if_neg c87] at H
                 have c87b0 : decide (x26_4 < t259) = false := decide_eq_false c87
                 clear c87
                 replace H := Option.bind_eq_some_iff.mp H
                 obtain ⟨⟨t304, t305⟩, A910, H⟩ := H
                 replace H : ((spec_CanUnwind.f k4 x25_4 t260).bind fun bt306 => (if t305 = bt306.2 then (if t305 = 0 then (laws_FnUnwound.j5 k4 t259 t260 x25_4 bt306.1 (t304 != bt306.1)) else (laws_FnUnwound.j5 k4 t259 t260 x25_4 bt306.1 true)) else (laws_FnUnwound.j5 k4 t259 t260 x25_4 bt306.1 true))) = some r := H
                 have A91 := Aside0.mk A910
                 clear A910
                 replace H := Option.bind_eq_some_iff.mp H
                 obtain ⟨⟨t306, t307⟩, A920, H⟩ := H
                 replace H : (if t305 = t307 then (if t305 = 0 then (laws_FnUnwound.j5 k4 t259 t260 x25_4 t306 (t304 != t306)) else (laws_FnUnwound.j5 k4 t259 t260 x25_4 t306 true)) else (laws_FnUnwound.j5 k4 t259 t260 x25_4 t306 true)) = some r := H
                 have A92 := Aside0.mk A920
                 clear A920
                 have HC93 := Aside0.mk H
                 clear H
                 obtain ⟨Ao94, co94, eo94⟩ := Kd.R_slice HO_25.out
                 subst eo94
                 go_upto_region 36 with (first | ((with_reducible refine gate_callee (f := 16) rfl ?_); refine goesL_ (some 204) rfl rfl Try.func16 (by kernel_rfl) rfl #[.slice Ao94 x25_4.length co94, .slice Ao14 t260.length co14] rfl (by (try simp only [List.map_toArray, List.map_cons, List.map_nil]); first | done | rfl | (simp only [List.length_drop, List.length_take]; rfl)) ?_; (with_reducible refine (impl_CanUnwind.calls k4 _ _ x25_4 _ _ t260 t304 t305 _ ?side1 ?side2 ?side3 ?side4 A91.out).mono ?_); (case side1 => repeat (first | exact (Kd.R_reads' HO_25.out).2.2 | (with_reducible refine Kd.C_alloc ?_ _) | (with_reducible refine Kd.C_drewN ?_ _) | (with_reducible refine Kd.C_drew ?_))); (case side2 => exact (Kd.R_reads' HO_25.out).2.1); (case side3 => repeat (first | exact (Kd.R_reads' HO_6.out).2.2 | (with_reducible refine Kd.C_alloc ?_ _) | (with_reducible refine Kd.C_drewN ?_ _) | (with_reducible refine Kd.C_drew ?_))); (case side4 => exact (Kd.R_reads' HO_6.out).2.1); rintro e w95 ⟨rfl, hb⟩; refine ⟨_, rfl, ?_⟩; have n0_ := Aside0.mk (Kd.R_below (by (with_reducible repeat (first | apply Kd.R_alloc | apply Kd.R_drewN | apply Kd.R_drew)); exact HO_6.out) hb); have n1_ := Aside0.mk (Kd.R_below (by (with_reducible repeat (first | apply Kd.R_alloc | apply Kd.R_drewN | apply Kd.R_drew)); exact HO_25.out) hb); have n2_ := Aside0.mk (below_step (by repeat (first | (with_reducible first | exact HB.out | apply below_alloc | apply pw_below_drewN | apply below_drew1) | exact HB.out)) hb); clear HO_6; clear HO_25; clear HB; have HO_6 := n0_; have HO_25 := n1_; have HB := n2_; clear n0_ n1_ n2_; (try clear hb); (try clear hb2); (try clear hk); (try clear hi)) | ((with_reducible refine gate_callee (f := 20) rfl ?_); refine goesL_ (some 210) rfl rfl Try.func20 (by kernel_rfl) rfl #[.slice Ao94 x25_4.length co94, .slice Ao14 t260.length co14] rfl (by (try simp only [List.map_toArray, List.map_cons, List.map_nil]); first | done | rfl | (simp only [List.length_drop, List.length_take]; rfl)) ?_; (with_reducible refine (spec_CanUnwind.calls k4 _ _ x25_4 _ _ t260 t306 t307 _ ?side1 ?side2 ?side3 ?side4 A92.out).mono ?_); (case side1 => repeat (first | exact (Kd.R_reads' HO_25.out).2.2 | (with_reducible refine Kd.C_alloc ?_ _) | (with_reducible refine Kd.C_drewN ?_ _) | (with_reducible refine Kd.C_drew ?_))); (case side2 => exact (Kd.R_reads' HO_25.out).2.1); (case side3 => repeat (first | exact (Kd.R_reads' HO_6.out).2.2 | (with_reducible refine Kd.C_alloc ?_ _) | (with_reducible refine Kd.C_drewN ?_ _) | (with_reducible refine Kd.C_drew ?_))); (case side4 => exact (Kd.R_reads' HO_6.out).2.1); rintro e w' ⟨rfl, ⟨nd, rfl⟩⟩; refine ⟨_, rfl, ?_⟩))
                 (try simp only [Act.put, List.setIfInBounds_toArray, List.set_cons_zero, List.set_cons_succ])
                 go_cut [224] (fun v224 wc => ∃ (kq : Nat) (x224_92 : Bool), v224 = .bool x224_92 ∧ Aside0 (laws_FnUnwound.j5 kq t259 t260 x25_4 t306 x224_92 = some r) ∧ Aside0 (kq ≤ k4) ∧ Aside0 (Kd.R (Kd.int .i64) 2 wc w.heap.size (fun k_ => some k_ ≠ ((.slice Ao94 x25_4.length co94) : Value).ownBlock) (.slice Ao14 t260.length co14) t260) ∧ Aside0 (Kd.R (Kd.int .i64) 2 wc w.heap.size (fun k_ => some k_ ≠ ((.slice Ao14 t260.length co14) : Value).ownBlock) (.slice Ao94 x25_4.length co94) x25_4) ∧ Aside0 (Below w.heap.size w wc))
                 case first =>
                  as_aux_lemma =>
                  have H := HC93.out
                  clear HC93
                  by_cases c96 : t305 = t307
                  ·rw [if_pos c96] at H
                   have c96b0 : (t305 == t307) = true := beq_iff_eq.mpr c96
                   have c96b1 : (t305 != t307) = false := bne_eq_false_iff_eq.mpr c96
                   clear c96
                   (first | rw [c96b0] | (simp only [i64_w, i32_w]; rw [c96b0]) | skip)
                   by_cases c97 : t305 = 0
                   ·rw [if_pos c97] at H
                    have c97b0 : (t305 == 0) = true := beq_iff_eq.mpr c97
                    have c97b1 : (t305 != 0) = false := bne_eq_false_iff_eq.mpr c97
                    clear c97
                    have H' := Aside0.mk H
                    clear H
                    go_wp2
                    go_meet
                    case rel => exact ⟨_, ((t304 != t306)), (by first | rfl | (simp; done) | (simp [*]; done)), H', ⟨by have := HJ11.out; have := HJ51.out; have := HK3.out; have := HK4.out; first | omega | exact Nat.le_refl _⟩, ⟨by (with_reducible repeat (first | apply Kd.R_alloc | apply Kd.R_drewN | apply Kd.R_drew)); exact HO_6.out⟩, ⟨by (with_reducible repeat (first | apply Kd.R_alloc | apply Kd.R_drewN | apply Kd.R_drew)); exact HO_25.out⟩, ⟨by repeat (first | (with_reducible first | exact HB.out | apply below_alloc | apply pw_below_drewN | apply below_drew1) | exact HB.out)⟩⟩
                   ·rw [if_neg c97] at H
                    have c97b0 : (t305 == 0) = false := beq_eq_false_iff_ne.mpr c97
                    have c97b1 : (t305 != 0) = true := bne_iff_ne.mpr c97
                    have H' := Aside0.mk H
                    clear H
                    go_wp2
                    go_meet
                    case rel => exact ⟨_, (true), (by first | rfl | (simp; done) | (simp [*]; done)), H', ⟨by have := HJ11.out; have := HJ51.out; have := HK3.out; have := HK4.out; first | omega | exact Nat.le_refl _⟩, ⟨by (with_reducible repeat (first | apply Kd.R_alloc | apply Kd.R_drewN | apply Kd.R_drew)); exact HO_6.out⟩, ⟨by (with_reducible repeat (first | apply Kd.R_alloc | apply Kd.R_drewN | apply Kd.R_drew)); exact HO_25.out⟩, ⟨by repeat (first | (with_reducible first | exact HB.out | apply below_alloc | apply pw_below_drewN | apply below_drew1) | exact HB.out)⟩⟩
                  ·rw [if_neg c96] at H
                   have c96b0 : (t305 == t307) = false := beq_eq_false_iff_ne.mpr c96
                   have c96b1 : (t305 != t307) = true := bne_iff_ne.mpr c96
                   (first | rw [c96b0] | (simp only [i64_w, i32_w]; rw [c96b0]) | skip)
                   have H' := Aside0.mk H
                   clear H
                   go_wp2
                   go_meet
                   case rel => exact ⟨_, (true), (by first | rfl | (simp; done) | (simp [*]; done)), H', ⟨by have := HJ11.out; have := HJ51.out; have := HK3.out; have := HK4.out; first | omega | exact Nat.le_refl _⟩, ⟨by (with_reducible repeat (first | apply Kd.R_alloc | apply Kd.R_drewN | apply Kd.R_drew)); exact HO_6.out⟩, ⟨by (with_reducible repeat (first | apply Kd.R_alloc | apply Kd.R_drewN | apply Kd.R_drew)); exact HO_25.out⟩, ⟨by repeat (first | (with_reducible first | exact HB.out | apply below_alloc | apply pw_below_drewN | apply below_drew1) | exact HB.out)⟩⟩
                 case rest =>
                  as_aux_lemma =>
                  clear HC93
                  try clear c1
                  try clear c2
                  try clear p2
                  try clear q2
                  try clear hx2
                  try clear c3
                  try clear c4
                  try clear c5
                  try clear c6
                  try clear p6
                  try clear q6
                  try clear hx6
                  try clear hf6
                  try clear c7
                  try clear p7
                  try clear q7
                  try clear hx7
                  try clear hf7
                  try clear c8
                  try clear c9
                  try clear c11
                  try clear c12
                  try clear c13
                  try clear c14
                  try clear c15
                  try clear c16
                  try clear c17
                  try clear c18
                  try clear c20
                  try clear c21
                  try clear c21b0
                  try clear c21b1
                  try clear c22
                  try clear c22b0
                  try clear c22b1
                  try clear c24
                  try clear c25
                  try clear c25b0
                  try clear c25b1
                  try clear c26
                  try clear c26b0
                  try clear c26b1
                  try clear c27
                  try clear c27b0
                  try clear c27b1
                  try clear c28
                  try clear c29
                  try clear c29b0
                  try clear c29b1
                  try clear p29
                  try clear q29
                  try clear hx29
                  try clear c30
                  try clear c30b0
                  try clear c30b1
                  try clear c32
                  try clear c33
                  try clear c33b0
                  try clear c33b1
                  try clear c50
                  try clear c55
                  try clear c55b0
                  try clear c55b1
                  try clear c56
                  try clear c57
                  try clear c57b0
                  try clear c57b1
                  try clear c58
                  try clear c58b0
                  try clear c58b1
                  try clear c61
                  try clear c61b0
                  try clear c62
                  try clear c62b0
                  try clear c63
                  try clear c63b0
                  try clear p64
                  try clear q64
                  try clear hx64
                  try clear hf64
                  try clear c67
                  try clear c67b0
                  try clear c68
                  try clear c68b0
                  try clear c69
                  try clear c69b0
                  try clear c70
                  try clear c70b0
                  try clear c71
                  try clear c71b0
                  try clear c72
                  try clear c72b0
                  try clear c73
                  try clear c73b0
                  try clear c74
                  try clear c74b0
                  try clear p76
                  try clear q76
                  try clear hx76
                  try clear hf76
                  try clear c81
                  try clear c81b0
                  try clear c82
                  try clear c82b0
                  try clear c84
                  try clear c84b0
                  try clear c84b1
                  try clear c87
                  try clear c87b0
                  try clear c89
                  try clear c96
                  try clear c96b0
                  try clear c96b1
                  try clear c97
                  try clear c97b0
                  try clear c97b1
                  try clear hx291_0
                  try clear hx292_0
                  try clear hx293_0
                  try clear hx294_0
                  try clear hx296_0
                  try clear hx64_0
                  try clear hx76_0
                  try clear p2
                  try clear p29
                  try clear p291
                  try clear p292
                  try clear p293
                  try clear p294
                  try clear p296
                  try clear p6
                  try clear p64
                  try clear p7
                  try clear p76
                  try clear q2
                  try clear q29
                  try clear q291
                  try clear q292
                  try clear q293
                  try clear q294
                  try clear q296
                  try clear q6
                  try clear q64
                  try clear q7
                  try clear q76
                  obtain ⟨kq, x224_92, rfl, HA, HJ92, HO_6, HO_25, HB⟩ := hcut
                  cases kq with
                  | zero => exact absurd HA.out (by simp [laws_FnUnwound.j5])
                  | succ kj92 =>
                   have H := HA.out
                   clear HA
                   simp only [laws_FnUnwound.j5] at H
                   by_cases c98 : x224_92 = true
                   ·subst c98
                    have H1 : (none) = some r := by rw [if_pos rfl] at H; exact H
                    clear H
                    have H := H1
                    clear H1
                    exact absurd H (by simp)
                   ·replace c98 := Bool.eq_false_iff.mpr c98
                    subst c98
                    have H1 : (laws_FnUnwound.l3 kj92 t259 t260 x25_4 t306 true 0) = some r := by rw [if_neg (show ¬ (false = true) by decide)] at H; exact H
                    clear H
                    have H := H1
                    clear H1
                    have H' := Aside0.mk H
                    clear H
                    go_wp2
                    go_loopg [31, 32] kj92 (fun kq v31 v32 w' => ∃ (x31_6 : Bool) (x32_6 : Int), v31 = .bool x31_6 ∧ v32 = .int .i64 x32_6 ∧ Aside0 (laws_FnUnwound.l3 kq t259 t260 x25_4 t306 x31_6 x32_6 = some r) ∧ Aside0 (kq ≤ kj92) ∧ Aside0 (Kd.R (Kd.int .i64) 2 w' w.heap.size (fun k_ => some k_ ≠ ((.slice Ao94 x25_4.length co94) : Value).ownBlock) (.slice Ao14 t260.length co14) t260) ∧ Aside0 (Kd.R (Kd.int .i64) 2 w' w.heap.size (fun k_ => some k_ ≠ ((.slice Ao14 t260.length co14) : Value).ownBlock) (.slice Ao94 x25_4.length co94) x25_4) ∧ Aside0 (Below w.heap.size w w'))
                    case atStart => exact ⟨(true), (0), (by first | rfl | (simp; done) | (simp [*]; done)), (by first | rfl | (simp; done) | (simp [*]; done)), H', ⟨Nat.le_refl _⟩, ⟨by (with_reducible repeat (first | apply Kd.R_alloc | apply Kd.R_drewN | apply Kd.R_drew)); exact HO_6.out⟩, ⟨by (with_reducible repeat (first | apply Kd.R_alloc | apply Kd.R_drewN | apply Kd.R_drew)); exact HO_25.out⟩, ⟨by repeat (first | (with_reducible first | exact HB.out | apply below_alloc | apply pw_below_drewN | apply below_drew1) | exact HB.out)⟩⟩
                    case round =>
                     clear H'
                     try clear c1
                     try clear c2
                     try clear p2
                     try clear q2
                     try clear hx2
                     try clear c3
                     try clear c4
                     try clear c5
                     try clear c6
                     try clear p6
                     try clear q6
                     try clear hx6
                     try clear hf6
                     try clear c7
                     try clear p7
                     try clear q7
                     try clear hx7
                     try clear hf7
                     try clear c8
                     try clear c9
                     try clear c11
                     try clear c12
                     try clear c13
                     try clear c14
                     try clear c15
                     try clear c16
                     try clear c17
                     try clear c18
                     try clear c20
                     try clear c21
                     try clear c21b0
                     try clear c21b1
                     try clear c22
                     try clear c22b0
                     try clear c22b1
                     try clear c24
                     try clear c25
                     try clear c25b0
                     try clear c25b1
                     try clear c26
                     try clear c26b0
                     try clear c26b1
                     try clear c27
                     try clear c27b0
                     try clear c27b1
                     try clear c28
                     try clear c29
                     try clear c29b0
                     try clear c29b1
                     try clear p29
                     try clear q29
                     try clear hx29
                     try clear c30
                     try clear c30b0
                     try clear c30b1
                     try clear c32
                     try clear c33
                     try clear c33b0
                     try clear c33b1
                     try clear c50
                     try clear c55
                     try clear c55b0
                     try clear c55b1
                     try clear c56
                     try clear c57
                     try clear c57b0
                     try clear c57b1
                     try clear c58
                     try clear c58b0
                     try clear c58b1
                     try clear c61
                     try clear c61b0
                     try clear c62
                     try clear c62b0
                     try clear c63
                     try clear c63b0
                     try clear p64
                     try clear q64
                     try clear hx64
                     try clear hf64
                     try clear c67
                     try clear c67b0
                     try clear c68
                     try clear c68b0
                     try clear c69
                     try clear c69b0
                     try clear c70
                     try clear c70b0
                     try clear c71
                     try clear c71b0
                     try clear c72
                     try clear c72b0
                     try clear c73
                     try clear c73b0
                     try clear c74
                     try clear c74b0
                     try clear p76
                     try clear q76
                     try clear hx76
                     try clear hf76
                     try clear c81
                     try clear c81b0
                     try clear c82
                     try clear c82b0
                     try clear c84
                     try clear c84b0
                     try clear c84b1
                     try clear c87
                     try clear c87b0
                     try clear c89
                     try clear c96
                     try clear c96b0
                     try clear c96b1
                     try clear c97
                     try clear c97b0
                     try clear c97b1
                     try clear c98
                     try clear hx291_0
                     try clear hx292_0
                     try clear hx293_0
                     try clear hx294_0
                     try clear hx296_0
                     try clear hx64_0
                     try clear hx76_0
                     try clear p2
                     try clear p29
                     try clear p291
                     try clear p292
                     try clear p293
                     try clear p294
                     try clear p296
                     try clear p6
                     try clear p64
                     try clear p7
                     try clear p76
                     try clear q2
                     try clear q29
                     try clear q291
                     try clear q292
                     try clear q293
                     try clear q294
                     try clear q296
                     try clear q6
                     try clear q64
                     try clear q7
                     try clear q76
                     obtain ⟨x31_6, x32_6, rfl, rfl, HA, HK6, HO_6, HO_25, HB⟩ := hrel
                     cases gk with
                     | zero => exact absurd HA.out (by simp [laws_FnUnwound.l3])
                     | succ k6 =>
                      have H := HA.out
                      clear HA
                      simp only [laws_FnUnwound.l3] at H
                      by_cases c99 : x32_6 < t259
                      ·rw [if_pos c99] at H
                       have c99b0 : decide (x32_6 < t259) = true := decide_eq_true c99
                       clear c99
                       have H' := Aside0.mk H
                       clear H
                       go_wp2
                       go_loopg [31, 33] k6 (fun kq v31 v33 w' => ∃ (x31_7 : Bool) (x33_7 : Int), v31 = .bool x31_7 ∧ v33 = .int .i64 x33_7 ∧ Aside0 (laws_FnUnwound.l4 kq t259 t260 x25_4 t306 x31_7 x32_6 x33_7 = some r) ∧ Aside0 (kq ≤ k6) ∧ Aside0 (Kd.R (Kd.int .i64) 2 w' w.heap.size (fun k_ => some k_ ≠ ((.slice Ao94 x25_4.length co94) : Value).ownBlock) (.slice Ao14 t260.length co14) t260) ∧ Aside0 (Kd.R (Kd.int .i64) 2 w' w.heap.size (fun k_ => some k_ ≠ ((.slice Ao14 t260.length co14) : Value).ownBlock) (.slice Ao94 x25_4.length co94) x25_4) ∧ Aside0 (Below w.heap.size w w'))
                       case atStart => exact ⟨(x31_6), (wrap64 (x32_6 + 1)), (by first | rfl | (simp; done) | (simp [*]; done)), (by first | rfl | (simp; done) | (simp [*]; done)), H', ⟨Nat.le_refl _⟩, ⟨by (with_reducible repeat (first | apply Kd.R_alloc | apply Kd.R_drewN | apply Kd.R_drew)); exact HO_6.out⟩, ⟨by (with_reducible repeat (first | apply Kd.R_alloc | apply Kd.R_drewN | apply Kd.R_drew)); exact HO_25.out⟩, ⟨by repeat (first | (with_reducible first | exact HB.out | apply below_alloc | apply pw_below_drewN | apply below_drew1) | exact HB.out)⟩⟩
                       case round =>
                        clear H'
                        try clear c1
                        try clear c2
                        try clear p2
                        try clear q2
                        try clear hx2
                        try clear c3
                        try clear c4
                        try clear c5
                        try clear c6
                        try clear p6
                        try clear q6
                        try clear hx6
                        try clear hf6
                        try clear c7
                        try clear p7
                        try clear q7
                        try clear hx7
                        try clear hf7
                        try clear c8
                        try clear c9
                        try clear c11
                        try clear c12
                        try clear c13
                        try clear c14
                        try clear c15
                        try clear c16
                        try clear c17
                        try clear c18
                        try clear c20
                        try clear c21
                        try clear c21b0
                        try clear c21b1
                        try clear c22
                        try clear c22b0
                        try clear c22b1
                        try clear c24
                        try clear c25
                        try clear c25b0
                        try clear c25b1
                        try clear c26
                        try clear c26b0
                        try clear c26b1
                        try clear c27
                        try clear c27b0
                        try clear c27b1
                        try clear c28
                        try clear c29
                        try clear c29b0
                        try clear c29b1
                        try clear p29
                        try clear q29
                        try clear hx29
                        try clear c30
                        try clear c30b0
                        try clear c30b1
                        try clear c32
                        try clear c33
                        try clear c33b0
                        try clear c33b1
                        try clear c50
                        try clear c55
                        try clear c55b0
                        try clear c55b1
                        try clear c56
                        try clear c57
                        try clear c57b0
                        try clear c57b1
                        try clear c58
                        try clear c58b0
                        try clear c58b1
                        try clear c61
                        try clear c61b0
                        try clear c62
                        try clear c62b0
                        try clear c63
                        try clear c63b0
                        try clear p64
                        try clear q64
                        try clear hx64
                        try clear hf64
                        try clear c67
                        try clear c67b0
                        try clear c68
                        try clear c68b0
                        try clear c69
                        try clear c69b0
                        try clear c70
                        try clear c70b0
                        try clear c71
                        try clear c71b0
                        try clear c72
                        try clear c72b0
                        try clear c73
                        try clear c73b0
                        try clear c74
                        try clear c74b0
                        try clear p76
                        try clear q76
                        try clear hx76
                        try clear hf76
                        try clear c81
                        try clear c81b0
                        try clear c82
                        try clear c82b0
                        try clear c84
                        try clear c84b0
                        try clear c84b1
                        try clear c87
                        try clear c87b0
                        try clear c89
                        try clear c96
                        try clear c96b0
                        try clear c96b1
                        try clear c97
                        try clear c97b0
                        try clear c97b1
                        try clear c98
                        try clear c99
                        try clear c99b0
                        try clear hx291_0
                        try clear hx292_0
                        try clear hx293_0
                        try clear hx294_0
                        try clear hx296_0
                        try clear hx64_0
                        try clear hx76_0
                        try clear p2
                        try clear p29
                        try clear p291
                        try clear p292
                        try clear p293
                        try clear p294
                        try clear p296
                        try clear p6
                        try clear p64
                        try clear p7
                        try clear p76
                        try clear q2
                        try clear q29
                        try clear q291
                        try clear q292
                        try clear q293
                        try clear q294
                        try clear q296
                        try clear q6
                        try clear q64
                        try clear q7
                        try clear q76
                        obtain ⟨x31_7, x33_7, rfl, rfl, HA, HK7, HO_6, HO_25, HB⟩ := hrel
                        cases gk with
                        | zero => exact absurd HA.out (by simp [laws_FnUnwound.l4])
                        | succ k7 =>
                         have H := HA.out
                         clear HA
                         simp only [laws_FnUnwound.l4] at H
                         by_cases c100 : x33_7 < t259
                         ·rw [if_pos c100] at H
                          have c100b0 : decide (x33_7 < t259) = true := decide_eq_true c100
                          clear c100
                          by_cases c101 : x31_7 = true
                          ·subst c101
                           have H1 : (if 0 ≤ x32_6 then (if x32_6 < (t260.length : Int) then (if 0 ≤ (rd t260 x32_6) then (if (rd t260 x32_6) < (x25_4.length : Int) then (if 0 ≤ x33_7 then (if x33_7 < (t260.length : Int) then (if 0 ≤ (rd t260 x33_7) then (if (rd t260 x33_7) < (x25_4.length : Int) then (if (rd x25_4 (rd t260 x32_6)) = (rd x25_4 (rd t260 x33_7)) then (laws_FnUnwound.l4 k7 t259 t260 x25_4 t306 (decide ((rd t260 x32_6) > (rd t260 x33_7))) x32_6 (wrap64 (x33_7 + 1))) else (laws_FnUnwound.l4 k7 t259 t260 x25_4 t306 true x32_6 (wrap64 (x33_7 + 1)))) else (none)) else (none)) else (none)) else (none)) else (none)) else (none)) else (none)) else (none)) = some r := by rw [if_pos rfl] at H; exact H
                           clear H
                           have H := H1
                           clear H1
                           by_cases c102 : 0 ≤ x32_6
                           ·rw [if_pos c102] at H
                            have c102b0 : decide (0 ≤ x32_6) = true := decide_eq_true c102
                            clear c102
                            by_cases c103 : x32_6 < (t260.length : Int)
                            ·rw [if_pos c103] at H
                             have c103b0 : decide (x32_6 < (t260.length : Int)) = true := decide_eq_true c103
                             clear c103
                             by_cases c104 : 0 ≤ (rd t260 x32_6)
                             ·rw [if_pos c104] at H
                              have c104b0 : decide (0 ≤ (rd t260 x32_6)) = true := decide_eq_true c104
                              clear c104
                              by_cases c105 : (rd t260 x32_6) < (x25_4.length : Int)
                              ·rw [if_pos c105] at H
                               have c105b0 : decide ((rd t260 x32_6) < (x25_4.length : Int)) = true := decide_eq_true c105
                               clear c105
                               by_cases c106 : 0 ≤ x33_7
                               ·rw [if_pos c106] at H
                                have c106b0 : decide (0 ≤ x33_7) = true := decide_eq_true c106
                                clear c106
                                by_cases c107 : x33_7 < (t260.length : Int)
                                ·rw [if_pos c107] at H
                                 have c107b0 : decide (x33_7 < (t260.length : Int)) = true := decide_eq_true c107
                                 clear c107
                                 by_cases c108 : 0 ≤ (rd t260 x33_7)
                                 ·rw [if_pos c108] at H
                                  have c108b0 : decide (0 ≤ (rd t260 x33_7)) = true := decide_eq_true c108
                                  clear c108
                                  by_cases c109 : (rd t260 x33_7) < (x25_4.length : Int)
                                  ·rw [if_pos c109] at H
                                   have c109b0 : decide ((rd t260 x33_7) < (x25_4.length : Int)) = true := decide_eq_true c109
                                   clear c109
                                   by_cases c110 : (rd x25_4 (rd t260 x32_6)) = (rd x25_4 (rd t260 x33_7))
                                   ·rw [if_pos c110] at H
                                    have c110b0 : ((rd x25_4 (rd t260 x32_6)) == (rd x25_4 (rd t260 x33_7))) = true := beq_iff_eq.mpr c110
                                    have c110b1 : ((rd x25_4 (rd t260 x32_6)) != (rd x25_4 (rd t260 x33_7))) = false := bne_eq_false_iff_eq.mpr c110
                                    clear c110
                                    have H' := Aside0.mk H
                                    clear H
                                    try go_wp2
                                    have n0_ := Aside0.mk (Kd.R_drew HO_6.out)
                                    have n1_ := Aside0.mk (Kd.R_drew HO_25.out)
                                    have n2_ := Aside0.mk (below_drew1 HB.out)
                                    clear HO_6
                                    clear HO_25
                                    clear HB
                                    have HO_6 := n0_
                                    have HO_25 := n1_
                                    have HB := n2_
                                    clear n0_ n1_ n2_
                                    have p308 : 0 ≤ (x32_6 : Int) := of_decide_eq_true (by first | (with_reducible assumption) | assumption)
                                    have q308 : x32_6 < (t260.length : Int) := of_decide_eq_true (by first | (with_reducible assumption) | assumption)
                                    obtain ⟨ad308, e308, hx308_0⟩ := Kd.at_int (Kd.R_reads' HO_6.out).2.2 x32_6 p308 q308
                                    cases e308
                                    replace p308 := eq_true p308
                                    replace q308 := eq_true q308
                                    have p309 : 0 ≤ ((rd t260 x32_6) : Int) := of_decide_eq_true (by first | (with_reducible assumption) | assumption)
                                    have q309 : (rd t260 x32_6) < (x25_4.length : Int) := of_decide_eq_true (by first | (with_reducible assumption) | assumption)
                                    obtain ⟨ad309, e309, hx309_0⟩ := Kd.at_int (Kd.R_reads' HO_25.out).2.2 (rd t260 x32_6) p309 q309
                                    cases e309
                                    replace p309 := eq_true p309
                                    replace q309 := eq_true q309
                                    have p310 : 0 ≤ (x33_7 : Int) := of_decide_eq_true (by first | (with_reducible assumption) | assumption)
                                    have q310 : x33_7 < (t260.length : Int) := of_decide_eq_true (by first | (with_reducible assumption) | assumption)
                                    obtain ⟨ad310, e310, hx310_0⟩ := Kd.at_int (Kd.R_reads' HO_6.out).2.2 x33_7 p310 q310
                                    obtain rfl : ad308 = ad310 := (by injection e310)
                                    replace p310 := eq_true p310
                                    replace q310 := eq_true q310
                                    have p311 : 0 ≤ ((rd t260 x33_7) : Int) := of_decide_eq_true (by first | (with_reducible assumption) | assumption)
                                    have q311 : (rd t260 x33_7) < (x25_4.length : Int) := of_decide_eq_true (by first | (with_reducible assumption) | assumption)
                                    obtain ⟨ad311, e311, hx311_0⟩ := Kd.at_int (Kd.R_reads' HO_25.out).2.2 (rd t260 x33_7) p311 q311
                                    obtain rfl : ad309 = ad311 := (by injection e311)
                                    replace p311 := eq_true p311
                                    replace q311 := eq_true q311
                                    have p312 : 0 ≤ (x32_6 : Int) := of_decide_eq_true (by first | (with_reducible assumption) | assumption)
                                    have q312 : x32_6 < (t260.length : Int) := of_decide_eq_true (by first | (with_reducible assumption) | assumption)
                                    obtain ⟨ad312, e312, hx312_0⟩ := Kd.at_int (Kd.R_reads' HO_6.out).2.2 x32_6 p312 q312
                                    obtain rfl : ad308 = ad312 := (by injection e312)
                                    replace p312 := eq_true p312
                                    replace q312 := eq_true q312
                                    have p313 : 0 ≤ (x33_7 : Int) := of_decide_eq_true (by first | (with_reducible assumption) | assumption)
                                    have q313 : x33_7 < (t260.length : Int) := of_decide_eq_true (by first | (with_reducible assumption) | assumption)
                                    obtain ⟨ad313, e313, hx313_0⟩ := Kd.at_int (Kd.R_reads' HO_6.out).2.2 x33_7 p313 q313
                                    obtain rfl : ad308 = ad313 := (by injection e313)
                                    replace p313 := eq_true p313
                                    replace q313 := eq_true q313
                                    refine start_ (n := 30) (S := fun w' => w'.cell? (ad308.add (x32_6).toNat) = some (.int .i64 (rd t260 x32_6)) ∧ w'.cell? (ad309.add ((rd t260 x32_6)).toNat) = some (.int .i64 (rd x25_4 (rd t260 x32_6))) ∧ w'.cell? (ad308.add (x33_7).toNat) = some (.int .i64 (rd t260 x33_7)) ∧ w'.cell? (ad309.add ((rd t260 x33_7)).toNat) = some (.int .i64 (rd x25_4 (rd t260 x33_7))) ∧ w'.cell? (ad308.add (x32_6).toNat) = some (.int .i64 (rd t260 x32_6)) ∧ w'.cell? (ad308.add (x33_7).toNat) = some (.int .i64 (rd t260 x33_7))) (ds := []) #[false, false, false, false, false, false, false, false, false, false, false, false, false, false, false, false, false, false, false, false, false, false, false, false, false, false, false, false, false, false] (by kernel_rfl) rfl rfl ⟨hx308_0, hx309_0, hx310_0, hx311_0, hx312_0, hx313_0⟩ (fun hHeld => ?_); refine with_tabW laws_FnUnwound.tab45 laws_FnUnwound.bits45 (fun HT_ HW_ => ?_)
                                    generalize wr.drew = w111 at HO_6 HO_25 HB hx308_0 hx309_0 hx310_0 hx311_0 hx312_0 hx313_0 hHeld ⊢
                                    refine pure_ (i := 0) (N := some 237) (v := ?_) (a' := ?_) #[true, false, false, false, false, false, false, false, false, false, false, false, false, false, false, false, false, false, false, false, false, false, false, false, false, false, false, false, false, false] rfl rfl (any_of HT_.out (by kernel_rfl)) (fun _ _ _ h => h) (Or.inl ⟨by rfl, ?_⟩) ?_ ?_
                                    rotate_left
                                    ·intro w'
                                     go_simp
                                     with_reducible rfl
                                    rotate_left
                                    ·simp only [Act.put, List.setIfInBounds_toArray, List.set_cons_zero, List.set_cons_succ, i64_w, i32_w]
                                     rfl
                                    refine pure_ (i := 1) (N := some 238) (v := ?_) (a' := ?_) #[true, true, false, false, false, false, false, false, false, false, false, false, false, false, false, false, false, false, false, false, false, false, false, false, false, false, false, false, false, false] rfl rfl (any_of HT_.out (by kernel_rfl)) (fun _ _ _ h => h) (Or.inl ⟨by rfl, ?_⟩) ?_ ?_
                                    rotate_left
                                    ·intro w'
                                     go_simp
                                     with_reducible rfl
                                    rotate_left
                                    ·simp only [Act.put, List.setIfInBounds_toArray, List.set_cons_zero, List.set_cons_succ, i64_w, i32_w]
                                     rfl
                                    refine pure_ (i := 2) (N := some 239) (v := ?_) (a' := ?_) #[true, true, true, false, false, false, false, false, false, false, false, false, false, false, false, false, false, false, false, false, false, false, false, false, false, false, false, false, false, false] rfl rfl (any_of HT_.out (by kernel_rfl)) (fun _ _ _ h => h) (Or.inl ⟨by rfl, ?_⟩) ?_ ?_
                                    rotate_left
                                    ·intro w'
                                     go_simp
                                     with_reducible rfl
                                    rotate_left
                                    ·simp only [Act.put, List.setIfInBounds_toArray, List.set_cons_zero, List.set_cons_succ, i64_w, i32_w]
                                     rfl
                                    refine pure_ (i := 3) (N := some 240) (v := ?_) (a' := ?_) #[true, true, true, true, false, false, false, false, false, false, false, false, false, false, false, false, false, false, false, false, false, false, false, false, false, false, false, false, false, false] rfl rfl (any_of HT_.out (by kernel_rfl)) (fun _ _ _ h => h) (Or.inl ⟨by rfl, ?_⟩) ?_ ?_
                                    rotate_left
                                    ·intro w'
                                     go_simp
                                     with_reducible rfl
                                    rotate_left
                                    ·simp only [Act.put, List.setIfInBounds_toArray, List.set_cons_zero, List.set_cons_succ, i64_w, i32_w]
                                     rfl
                                    refine pure_ (i := 4) (N := some 241) (v := ?_) (a' := ?_) #[true, true, true, true, true, false, false, false, false, false, false, false, false, false, false, false, false, false, false, false, false, false, false, false, false, false, false, false, false, false] rfl rfl (any_of HT_.out (by kernel_rfl)) (fun _ _ _ h => h) (Or.inl ⟨by rfl, ?_⟩) ?_ ?_
                                    rotate_left
                                    ·intro w'
                                     go_simp
                                     with_reducible rfl
                                    rotate_left
                                    ·simp only [Act.put, List.setIfInBounds_toArray, List.set_cons_zero, List.set_cons_succ, i64_w, i32_w]
                                     rfl
                                    refine pure_ (i := 5) (N := some 242) (v := ?_) (a' := ?_) #[true, true, true, true, true, true, false, false, false, false, false, false, false, false, false, false, false, false, false, false, false, false, false, false, false, false, false, false, false, false] rfl rfl (any_of HT_.out (by kernel_rfl)) (fun _ _ _ h => h) (Or.inl ⟨by rfl, ?_⟩) ?_ ?_
                                    rotate_left
                                    ·intro w'
                                     go_simp
                                     with_reducible rfl
                                    rotate_left
                                    ·simp only [Act.put, List.setIfInBounds_toArray, List.set_cons_zero, List.set_cons_succ, i64_w, i32_w]
                                     rfl
                                    refine pure_ (i := 9) (N := some 246) (v := ?_) (a' := ?_) #[true, true, true, true, true, true, false, false, false, true, false, false, false, false, false, false, false, false, false, false, false, false, false, false, false, false, false, false, false, false] rfl rfl (any_of HT_.out (by kernel_rfl)) (fun _ _ _ h => h) (Or.inl ⟨by rfl, ?_⟩) ?_ ?_
                                    rotate_left
                                    ·intro w'
                                     go_simp
                                     with_reducible rfl
                                    rotate_left
                                    ·simp only [Act.put, List.setIfInBounds_toArray, List.set_cons_zero, List.set_cons_succ, i64_w, i32_w]
                                     rfl
                                    refine pure_ (i := 10) (N := some 247) (v := ?_) (a' := ?_) #[true, true, true, true, true, true, false, false, false, true, true, false, false, false, false, false, false, false, false, false, false, false, false, false, false, false, false, false, false, false] rfl rfl (any_of HT_.out (by kernel_rfl)) (fun _ _ _ h => h) (Or.inl ⟨by rfl, ?_⟩) ?_ ?_
                                    rotate_left
                                    ·intro w'
                                     go_simp
                                     with_reducible rfl
                                    rotate_left
                                    ·simp only [Act.put, List.setIfInBounds_toArray, List.set_cons_zero, List.set_cons_succ, i64_w, i32_w]
                                     rfl
                                    refine pure_ (i := 11) (N := some 248) (v := ?_) (a' := ?_) #[true, true, true, true, true, true, false, false, false, true, true, true, false, false, false, false, false, false, false, false, false, false, false, false, false, false, false, false, false, false] rfl rfl (any_of HT_.out (by kernel_rfl)) (fun _ _ _ h => h) (Or.inl ⟨by rfl, ?_⟩) ?_ ?_
                                    rotate_left
                                    ·intro w'
                                     go_simp
                                     with_reducible rfl
                                    rotate_left
                                    ·simp only [Act.put, List.setIfInBounds_toArray, List.set_cons_zero, List.set_cons_succ, i64_w, i32_w]
                                     rfl
                                    refine pure_ (i := 12) (N := some 249) (v := ?_) (a' := ?_) #[true, true, true, true, true, true, false, false, false, true, true, true, true, false, false, false, false, false, false, false, false, false, false, false, false, false, false, false, false, false] rfl rfl (any_of HT_.out (by kernel_rfl)) (fun _ _ _ h => h) (Or.inl ⟨by rfl, ?_⟩) ?_ ?_
                                    rotate_left
                                    ·intro w'
                                     go_simp
                                     with_reducible rfl
                                    rotate_left
                                    ·simp only [Act.put, List.setIfInBounds_toArray, List.set_cons_zero, List.set_cons_succ, i64_w, i32_w]
                                     rfl
                                    refine take_ (i := 6) (N := some 243) (v := ?_) (a' := ?_) #[true, true, true, true, true, true, true, false, false, true, true, true, true, false, false, false, false, false, false, false, false, false, false, false, false, false, false, false, false, false] rfl rfl (take_ofW HT_.out HW_.out (by kernel_rfl)) (fun _ _ _ h => h) (Or.inl ⟨by rfl, ?_⟩) hHeld ?_ ?_
                                    rotate_left
                                    ·rintro w' ⟨s0, s1, s2, s3, s4, s5⟩
                                     go_simp
                                     with_reducible rfl
                                    rotate_left
                                    ·simp only [Act.put, List.setIfInBounds_toArray, List.set_cons_zero, List.set_cons_succ, i64_w, i32_w]
                                     rfl
                                    refine pure_ (i := 7) (N := some 244) (v := ?_) (a' := ?_) #[true, true, true, true, true, true, true, true, false, true, true, true, true, false, false, false, false, false, false, false, false, false, false, false, false, false, false, false, false, false] rfl rfl (any_of HT_.out (by kernel_rfl)) (fun _ _ _ h => h) (Or.inl ⟨by rfl, ?_⟩) ?_ ?_
                                    rotate_left
                                    ·intro w'
                                     go_simp
                                     with_reducible rfl
                                    rotate_left
                                    ·simp only [Act.put, List.setIfInBounds_toArray, List.set_cons_zero, List.set_cons_succ, i64_w, i32_w]
                                     rfl
                                    refine take_ (i := 8) (N := some 245) (v := ?_) (a' := ?_) #[true, true, true, true, true, true, true, true, true, true, true, true, true, false, false, false, false, false, false, false, false, false, false, false, false, false, false, false, false, false] rfl rfl (take_ofW HT_.out HW_.out (by kernel_rfl)) (fun _ _ _ h => h) (Or.inl ⟨by rfl, ?_⟩) hHeld ?_ ?_
                                    rotate_left
                                    ·rintro w' ⟨s0, s1, s2, s3, s4, s5⟩
                                     go_simp
                                     with_reducible rfl
                                    rotate_left
                                    ·simp only [Act.put, List.setIfInBounds_toArray, List.set_cons_zero, List.set_cons_succ, i64_w, i32_w]
                                     rfl
                                    refine take_ (i := 13) (N := some 250) (v := ?_) (a' := ?_) #[true, true, true, true, true, true, true, true, true, true, true, true, true, true, false, false, false, false, false, false, false, false, false, false, false, false, false, false, false, false] rfl rfl (take_ofW HT_.out HW_.out (by kernel_rfl)) (fun _ _ _ h => h) (Or.inl ⟨by rfl, ?_⟩) hHeld ?_ ?_
                                    rotate_left
                                    ·rintro w' ⟨s0, s1, s2, s3, s4, s5⟩
                                     go_simp
                                     with_reducible rfl
                                    rotate_left
                                    ·simp only [Act.put, List.setIfInBounds_toArray, List.set_cons_zero, List.set_cons_succ, i64_w, i32_w]
                                     rfl
                                    refine pure_ (i := 14) (N := some 251) (v := ?_) (a' := ?_) #[true, true, true, true, true, true, true, true, true, true, true, true, true, true, true, false, false, false, false, false, false, false, false, false, false, false, false, false, false, false] rfl rfl (any_of HT_.out (by kernel_rfl)) (fun _ _ _ h => h) (Or.inl ⟨by rfl, ?_⟩) ?_ ?_
                                    rotate_left
                                    ·intro w'
                                     go_simp
                                     with_reducible rfl
                                    rotate_left
                                    ·simp only [Act.put, List.setIfInBounds_toArray, List.set_cons_zero, List.set_cons_succ, i64_w, i32_w]
                                     rfl
                                    refine take_ (i := 15) (N := some 252) (v := ?_) (a' := ?_) #[true, true, true, true, true, true, true, true, true, true, true, true, true, true, true, true, false, false, false, false, false, false, false, false, false, false, false, false, false, false] rfl rfl (take_ofW HT_.out HW_.out (by kernel_rfl)) (fun _ _ _ h => h) (Or.inl ⟨by rfl, ?_⟩) hHeld ?_ ?_
                                    rotate_left
                                    ·rintro w' ⟨s0, s1, s2, s3, s4, s5⟩
                                     go_simp
                                     with_reducible rfl
                                    rotate_left
                                    ·simp only [Act.put, List.setIfInBounds_toArray, List.set_cons_zero, List.set_cons_succ, i64_w, i32_w]
                                     rfl
                                    refine pure_ (i := 16) (N := some 253) (v := ?_) (a' := ?_) #[true, true, true, true, true, true, true, true, true, true, true, true, true, true, true, true, true, false, false, false, false, false, false, false, false, false, false, false, false, false] rfl rfl (any_of HT_.out (by kernel_rfl)) (fun _ _ _ h => h) (Or.inl ⟨by rfl, ?_⟩) ?_ ?_
                                    rotate_left
                                    ·intro w'
                                     go_simp
                                     with_reducible rfl
                                    rotate_left
                                    ·simp only [Act.put, List.setIfInBounds_toArray, List.set_cons_zero, List.set_cons_succ, i64_w, i32_w]
                                     rfl
                                    refine pure_ (i := 17) (N := some 254) (v := ?_) (a' := ?_) #[true, true, true, true, true, true, true, true, true, true, true, true, true, true, true, true, true, true, false, false, false, false, false, false, false, false, false, false, false, false] rfl rfl (any_of HT_.out (by kernel_rfl)) (fun _ _ _ h => h) (Or.inl ⟨by rfl, ?_⟩) ?_ ?_
                                    rotate_left
                                    ·intro w'
                                     go_simp
                                     with_reducible rfl
                                    rotate_left
                                    ·simp only [Act.put, List.setIfInBounds_toArray, List.set_cons_zero, List.set_cons_succ, i64_w, i32_w]
                                     rfl
                                    refine pure_ (i := 18) (N := some 255) (v := ?_) (a' := ?_) #[true, true, true, true, true, true, true, true, true, true, true, true, true, true, true, true, true, true, true, false, false, false, false, false, false, false, false, false, false, false] rfl rfl (any_of HT_.out (by kernel_rfl)) (fun _ _ _ h => h) (Or.inl ⟨by rfl, ?_⟩) ?_ ?_
                                    rotate_left
                                    ·intro w'
                                     go_simp
                                     with_reducible rfl
                                    rotate_left
                                    ·simp only [Act.put, List.setIfInBounds_toArray, List.set_cons_zero, List.set_cons_succ, i64_w, i32_w]
                                     rfl
                                    refine pure_ (i := 19) (N := some 256) (v := ?_) (a' := ?_) #[true, true, true, true, true, true, true, true, true, true, true, true, true, true, true, true, true, true, true, true, false, false, false, false, false, false, false, false, false, false] rfl rfl (any_of HT_.out (by kernel_rfl)) (fun _ _ _ h => h) (Or.inl ⟨by rfl, ?_⟩) ?_ ?_
                                    rotate_left
                                    ·intro w'
                                     go_simp
                                     with_reducible rfl
                                    rotate_left
                                    ·simp only [Act.put, List.setIfInBounds_toArray, List.set_cons_zero, List.set_cons_succ, i64_w, i32_w]
                                     rfl
                                    refine pure_ (i := 20) (N := some 257) (v := ?_) (a' := ?_) #[true, true, true, true, true, true, true, true, true, true, true, true, true, true, true, true, true, true, true, true, true, false, false, false, false, false, false, false, false, false] rfl rfl (any_of HT_.out (by kernel_rfl)) (fun _ _ _ h => h) (Or.inl ⟨by rfl, ?_⟩) ?_ ?_
                                    rotate_left
                                    ·intro w'
                                     go_simp
                                     with_reducible rfl
                                    rotate_left
                                    ·simp only [Act.put, List.setIfInBounds_toArray, List.set_cons_zero, List.set_cons_succ, i64_w, i32_w]
                                     rfl
                                    refine pure_ (i := 22) (N := some 259) (v := ?_) (a' := ?_) #[true, true, true, true, true, true, true, true, true, true, true, true, true, true, true, true, true, true, true, true, true, false, true, false, false, false, false, false, false, false] rfl rfl (any_of HT_.out (by kernel_rfl)) (fun _ _ _ h => h) (Or.inl ⟨by rfl, ?_⟩) ?_ ?_
                                    rotate_left
                                    ·intro w'
                                     go_simp
                                     with_reducible rfl
                                    rotate_left
                                    ·simp only [Act.put, List.setIfInBounds_toArray, List.set_cons_zero, List.set_cons_succ, i64_w, i32_w]
                                     rfl
                                    refine pure_ (i := 23) (N := some 260) (v := ?_) (a' := ?_) #[true, true, true, true, true, true, true, true, true, true, true, true, true, true, true, true, true, true, true, true, true, false, true, true, false, false, false, false, false, false] rfl rfl (any_of HT_.out (by kernel_rfl)) (fun _ _ _ h => h) (Or.inl ⟨by rfl, ?_⟩) ?_ ?_
                                    rotate_left
                                    ·intro w'
                                     go_simp
                                     with_reducible rfl
                                    rotate_left
                                    ·simp only [Act.put, List.setIfInBounds_toArray, List.set_cons_zero, List.set_cons_succ, i64_w, i32_w]
                                     rfl
                                    refine pure_ (i := 24) (N := some 261) (v := ?_) (a' := ?_) #[true, true, true, true, true, true, true, true, true, true, true, true, true, true, true, true, true, true, true, true, true, false, true, true, true, false, false, false, false, false] rfl rfl (any_of HT_.out (by kernel_rfl)) (fun _ _ _ h => h) (Or.inl ⟨by rfl, ?_⟩) ?_ ?_
                                    rotate_left
                                    ·intro w'
                                     go_simp
                                     with_reducible rfl
                                    rotate_left
                                    ·simp only [Act.put, List.setIfInBounds_toArray, List.set_cons_zero, List.set_cons_succ, i64_w, i32_w]
                                     rfl
                                    refine take_ (i := 21) (N := some 258) (v := ?_) (a' := ?_) #[true, true, true, true, true, true, true, true, true, true, true, true, true, true, true, true, true, true, true, true, true, true, true, true, true, false, false, false, false, false] rfl rfl (take_ofW HT_.out HW_.out (by kernel_rfl)) (fun _ _ _ h => h) (Or.inl ⟨by rfl, ?_⟩) hHeld ?_ ?_
                                    rotate_left
                                    ·rintro w' ⟨s0, s1, s2, s3, s4, s5⟩
                                     go_simp
                                     with_reducible rfl
                                    rotate_left
                                    ·simp only [Act.put, List.setIfInBounds_toArray, List.set_cons_zero, List.set_cons_succ, i64_w, i32_w]
                                     rfl
                                    refine take_ (i := 25) (N := some 262) (v := ?_) (a' := ?_) #[true, true, true, true, true, true, true, true, true, true, true, true, true, true, true, true, true, true, true, true, true, true, true, true, true, true, false, false, false, false] rfl rfl (take_ofW HT_.out HW_.out (by kernel_rfl)) (fun _ _ _ h => h) (Or.inl ⟨by rfl, ?_⟩) hHeld ?_ ?_
                                    rotate_left
                                    ·rintro w' ⟨s0, s1, s2, s3, s4, s5⟩
                                     go_simp
                                     with_reducible rfl
                                    rotate_left
                                    ·simp only [Act.put, List.setIfInBounds_toArray, List.set_cons_zero, List.set_cons_succ, i64_w, i32_w]
                                     rfl
                                    refine pure_ (i := 26) (N := some 263) (v := ?_) (a' := ?_) #[true, true, true, true, true, true, true, true, true, true, true, true, true, true, true, true, true, true, true, true, true, true, true, true, true, true, true, false, false, false] rfl rfl (any_of HT_.out (by kernel_rfl)) (fun _ _ _ h => h) (Or.inl ⟨by rfl, ?_⟩) ?_ ?_
                                    rotate_left
                                    ·intro w'
                                     go_simp
                                     with_reducible rfl
                                    rotate_left
                                    ·simp only [Act.put, List.setIfInBounds_toArray, List.set_cons_zero, List.set_cons_succ, i64_w, i32_w]
                                     rfl
                                    refine pure_ (i := 27) (N := some 264) (v := ?_) (a' := ?_) #[true, true, true, true, true, true, true, true, true, true, true, true, true, true, true, true, true, true, true, true, true, true, true, true, true, true, true, true, false, false] rfl rfl (any_of HT_.out (by kernel_rfl)) (fun _ _ _ h => h) (Or.inl ⟨by rfl, ?_⟩) ?_ ?_
                                    rotate_left
                                    ·intro w'
                                     go_simp
                                     with_reducible rfl
                                    rotate_left
                                    ·simp only [Act.put, List.setIfInBounds_toArray, List.set_cons_zero, List.set_cons_succ, i64_w, i32_w]
                                     rfl
                                    refine pure_ (i := 28) (N := some 265) (v := ?_) (a' := ?_) #[true, true, true, true, true, true, true, true, true, true, true, true, true, true, true, true, true, true, true, true, true, true, true, true, true, true, true, true, true, false] rfl rfl (any_of HT_.out (by kernel_rfl)) (fun _ _ _ h => h) (Or.inl ⟨by rfl, ?_⟩) ?_ ?_
                                    rotate_left
                                    ·intro w'
                                     go_simp
                                     with_reducible rfl
                                    rotate_left
                                    ·simp only [Act.put, List.setIfInBounds_toArray, List.set_cons_zero, List.set_cons_succ, i64_w, i32_w]
                                     rfl
                                    refine pure_ (i := 29) (N := some 31) (v := ?_) (a' := ?_) #[true, true, true, true, true, true, true, true, true, true, true, true, true, true, true, true, true, true, true, true, true, true, true, true, true, true, true, true, true, true] rfl rfl (any_of HT_.out (by kernel_rfl)) (fun _ _ _ h => h) (Or.inl ⟨by rfl, ?_⟩) ?_ ?_
                                    rotate_left
                                    ·intro w'
                                     go_simp
                                     with_reducible rfl
                                    rotate_left
                                    ·simp only [Act.put, List.setIfInBounds_toArray, List.set_cons_zero, List.set_cons_succ, i64_w, i32_w]
                                     rfl
                                    refine done_ (done_of HT_.out (by kernel_rfl)) ?_
                                    try go_wp2
                                    go_roundg k7
                                    case measure => have := HJ11.out; have := HJ51.out; have := HK3.out; have := HK4.out; have := HJ92.out; have := HK6.out; have := HK7.out; omega
                                    case rel => exact ⟨(decide ((rd t260 x32_6) > (rd t260 x33_7))), (wrap64 (x33_7 + 1)), (by first | rfl | (simp; done) | (simp [*]; done)), (by first | rfl | (simp; done) | (simp [*]; done)), H', ⟨by have := HJ11.out; have := HJ51.out; have := HK3.out; have := HK4.out; have := HJ92.out; have := HK6.out; have := HK7.out; omega⟩, ⟨by (with_reducible repeat (first | apply Kd.R_alloc | apply Kd.R_drewN | apply Kd.R_drew)); exact HO_6.out⟩, ⟨by (with_reducible repeat (first | apply Kd.R_alloc | apply Kd.R_drewN | apply Kd.R_drew)); exact HO_25.out⟩, ⟨by repeat (first | (with_reducible first | exact HB.out | apply below_alloc | apply pw_below_drewN | apply below_drew1) | exact HB.out)⟩⟩
                                   ·rw [if_neg c110] at H
                                    have c110b0 : ((rd x25_4 (rd t260 x32_6)) == (rd x25_4 (rd t260 x33_7))) = false := beq_eq_false_iff_ne.mpr c110
                                    have c110b1 : ((rd x25_4 (rd t260 x32_6)) != (rd x25_4 (rd t260 x33_7))) = true := bne_iff_ne.mpr c110
                                    have H' := Aside0.mk H
                                    clear H
                                    try go_wp2
                                    have n0_ := Aside0.mk (Kd.R_drew HO_6.out)
                                    have n1_ := Aside0.mk (Kd.R_drew HO_25.out)
                                    have n2_ := Aside0.mk (below_drew1 HB.out)
                                    clear HO_6
                                    clear HO_25
                                    clear HB
                                    have HO_6 := n0_
                                    have HO_25 := n1_
                                    have HB := n2_
                                    clear n0_ n1_ n2_
                                    have p308 : 0 ≤ (x32_6 : Int) := of_decide_eq_true (by first | (with_reducible assumption) | assumption)
                                    have q308 : x32_6 < (t260.length : Int) := of_decide_eq_true (by first | (with_reducible assumption) | assumption)
                                    obtain ⟨ad308, e308, hx308_0⟩ := Kd.at_int (Kd.R_reads' HO_6.out).2.2 x32_6 p308 q308
                                    cases e308
                                    replace p308 := eq_true p308
                                    replace q308 := eq_true q308
                                    have p309 : 0 ≤ ((rd t260 x32_6) : Int) := of_decide_eq_true (by first | (with_reducible assumption) | assumption)
                                    have q309 : (rd t260 x32_6) < (x25_4.length : Int) := of_decide_eq_true (by first | (with_reducible assumption) | assumption)
                                    obtain ⟨ad309, e309, hx309_0⟩ := Kd.at_int (Kd.R_reads' HO_25.out).2.2 (rd t260 x32_6) p309 q309
                                    cases e309
                                    replace p309 := eq_true p309
                                    replace q309 := eq_true q309
                                    have p310 : 0 ≤ (x33_7 : Int) := of_decide_eq_true (by first | (with_reducible assumption) | assumption)
                                    have q310 : x33_7 < (t260.length : Int) := of_decide_eq_true (by first | (with_reducible assumption) | assumption)
                                    obtain ⟨ad310, e310, hx310_0⟩ := Kd.at_int (Kd.R_reads' HO_6.out).2.2 x33_7 p310 q310
                                    obtain rfl : ad308 = ad310 := (by injection e310)
                                    replace p310 := eq_true p310
                                    replace q310 := eq_true q310
                                    have p311 : 0 ≤ ((rd t260 x33_7) : Int) := of_decide_eq_true (by first | (with_reducible assumption) | assumption)
                                    have q311 : (rd t260 x33_7) < (x25_4.length : Int) := of_decide_eq_true (by first | (with_reducible assumption) | assumption)
                                    obtain ⟨ad311, e311, hx311_0⟩ := Kd.at_int (Kd.R_reads' HO_25.out).2.2 (rd t260 x33_7) p311 q311
                                    obtain rfl : ad309 = ad311 := (by injection e311)
                                    replace p311 := eq_true p311
                                    replace q311 := eq_true q311
                                    refine start_ (n := 30) (S := fun w' => w'.cell? (ad308.add (x32_6).toNat) = some (.int .i64 (rd t260 x32_6)) ∧ w'.cell? (ad309.add ((rd t260 x32_6)).toNat) = some (.int .i64 (rd x25_4 (rd t260 x32_6))) ∧ w'.cell? (ad308.add (x33_7).toNat) = some (.int .i64 (rd t260 x33_7)) ∧ w'.cell? (ad309.add ((rd t260 x33_7)).toNat) = some (.int .i64 (rd x25_4 (rd t260 x33_7)))) (ds := []) #[false, false, false, false, false, false, false, false, false, false, false, false, false, false, false, false, false, false, false, false, false, false, false, false, false, false, false, false, false, false] (by kernel_rfl) rfl rfl ⟨hx308_0, hx309_0, hx310_0, hx311_0⟩ (fun hHeld => ?_); refine with_tabW laws_FnUnwound.tab45 laws_FnUnwound.bits45 (fun HT_ HW_ => ?_)
                                    generalize wr.drew = w112 at HO_6 HO_25 HB hx308_0 hx309_0 hx310_0 hx311_0 hHeld ⊢
                                    refine pure_ (i := 0) (N := some 237) (v := ?_) (a' := ?_) #[true, false, false, false, false, false, false, false, false, false, false, false, false, false, false, false, false, false, false, false, false, false, false, false, false, false, false, false, false, false] rfl rfl (any_of HT_.out (by kernel_rfl)) (fun _ _ _ h => h) (Or.inl ⟨by rfl, ?_⟩) ?_ ?_
                                    rotate_left
                                    ·intro w'
                                     go_simp
                                     with_reducible rfl
                                    rotate_left
                                    ·simp only [Act.put, List.setIfInBounds_toArray, List.set_cons_zero, List.set_cons_succ, i64_w, i32_w]
                                     rfl
                                    refine pure_ (i := 1) (N := some 238) (v := ?_) (a' := ?_) #[true, true, false, false, false, false, false, false, false, false, false, false, false, false, false, false, false, false, false, false, false, false, false, false, false, false, false, false, false, false] rfl rfl (any_of HT_.out (by kernel_rfl)) (fun _ _ _ h => h) (Or.inl ⟨by rfl, ?_⟩) ?_ ?_
                                    rotate_left
                                    ·intro w'
                                     go_simp
                                     with_reducible rfl
                                    rotate_left
                                    ·simp only [Act.put, List.setIfInBounds_toArray, List.set_cons_zero, List.set_cons_succ, i64_w, i32_w]
                                     rfl
                                    refine pure_ (i := 2) (N := some 239) (v := ?_) (a' := ?_) #[true, true, true, false, false, false, false, false, false, false, false, false, false, false, false, false, false, false, false, false, false, false, false, false, false, false, false, false, false, false] rfl rfl (any_of HT_.out (by kernel_rfl)) (fun _ _ _ h => h) (Or.inl ⟨by rfl, ?_⟩) ?_ ?_
                                    rotate_left
                                    ·intro w'
                                     go_simp
                                     with_reducible rfl
                                    rotate_left
                                    ·simp only [Act.put, List.setIfInBounds_toArray, List.set_cons_zero, List.set_cons_succ, i64_w, i32_w]
                                     rfl
                                    refine pure_ (i := 3) (N := some 240) (v := ?_) (a' := ?_) #[true, true, true, true, false, false, false, false, false, false, false, false, false, false, false, false, false, false, false, false, false, false, false, false, false, false, false, false, false, false] rfl rfl (any_of HT_.out (by kernel_rfl)) (fun _ _ _ h => h) (Or.inl ⟨by rfl, ?_⟩) ?_ ?_
                                    rotate_left
                                    ·intro w'
                                     go_simp
                                     with_reducible rfl
                                    rotate_left
                                    ·simp only [Act.put, List.setIfInBounds_toArray, List.set_cons_zero, List.set_cons_succ, i64_w, i32_w]
                                     rfl
                                    refine pure_ (i := 4) (N := some 241) (v := ?_) (a' := ?_) #[true, true, true, true, true, false, false, false, false, false, false, false, false, false, false, false, false, false, false, false, false, false, false, false, false, false, false, false, false, false] rfl rfl (any_of HT_.out (by kernel_rfl)) (fun _ _ _ h => h) (Or.inl ⟨by rfl, ?_⟩) ?_ ?_
                                    rotate_left
                                    ·intro w'
                                     go_simp
                                     with_reducible rfl
                                    rotate_left
                                    ·simp only [Act.put, List.setIfInBounds_toArray, List.set_cons_zero, List.set_cons_succ, i64_w, i32_w]
                                     rfl
                                    refine pure_ (i := 5) (N := some 242) (v := ?_) (a' := ?_) #[true, true, true, true, true, true, false, false, false, false, false, false, false, false, false, false, false, false, false, false, false, false, false, false, false, false, false, false, false, false] rfl rfl (any_of HT_.out (by kernel_rfl)) (fun _ _ _ h => h) (Or.inl ⟨by rfl, ?_⟩) ?_ ?_
                                    rotate_left
                                    ·intro w'
                                     go_simp
                                     with_reducible rfl
                                    rotate_left
                                    ·simp only [Act.put, List.setIfInBounds_toArray, List.set_cons_zero, List.set_cons_succ, i64_w, i32_w]
                                     rfl
                                    refine pure_ (i := 9) (N := some 246) (v := ?_) (a' := ?_) #[true, true, true, true, true, true, false, false, false, true, false, false, false, false, false, false, false, false, false, false, false, false, false, false, false, false, false, false, false, false] rfl rfl (any_of HT_.out (by kernel_rfl)) (fun _ _ _ h => h) (Or.inl ⟨by rfl, ?_⟩) ?_ ?_
                                    rotate_left
                                    ·intro w'
                                     go_simp
                                     with_reducible rfl
                                    rotate_left
                                    ·simp only [Act.put, List.setIfInBounds_toArray, List.set_cons_zero, List.set_cons_succ, i64_w, i32_w]
                                     rfl
                                    refine pure_ (i := 10) (N := some 247) (v := ?_) (a' := ?_) #[true, true, true, true, true, true, false, false, false, true, true, false, false, false, false, false, false, false, false, false, false, false, false, false, false, false, false, false, false, false] rfl rfl (any_of HT_.out (by kernel_rfl)) (fun _ _ _ h => h) (Or.inl ⟨by rfl, ?_⟩) ?_ ?_
                                    rotate_left
                                    ·intro w'
                                     go_simp
                                     with_reducible rfl
                                    rotate_left
                                    ·simp only [Act.put, List.setIfInBounds_toArray, List.set_cons_zero, List.set_cons_succ, i64_w, i32_w]
                                     rfl
                                    refine pure_ (i := 11) (N := some 248) (v := ?_) (a' := ?_) #[true, true, true, true, true, true, false, false, false, true, true, true, false, false, false, false, false, false, false, false, false, false, false, false, false, false, false, false, false, false] rfl rfl (any_of HT_.out (by kernel_rfl)) (fun _ _ _ h => h) (Or.inl ⟨by rfl, ?_⟩) ?_ ?_
                                    rotate_left
                                    ·intro w'
                                     go_simp
                                     with_reducible rfl
                                    rotate_left
                                    ·simp only [Act.put, List.setIfInBounds_toArray, List.set_cons_zero, List.set_cons_succ, i64_w, i32_w]
                                     rfl
                                    refine pure_ (i := 12) (N := some 249) (v := ?_) (a' := ?_) #[true, true, true, true, true, true, false, false, false, true, true, true, true, false, false, false, false, false, false, false, false, false, false, false, false, false, false, false, false, false] rfl rfl (any_of HT_.out (by kernel_rfl)) (fun _ _ _ h => h) (Or.inl ⟨by rfl, ?_⟩) ?_ ?_
                                    rotate_left
                                    ·intro w'
                                     go_simp
                                     with_reducible rfl
                                    rotate_left
                                    ·simp only [Act.put, List.setIfInBounds_toArray, List.set_cons_zero, List.set_cons_succ, i64_w, i32_w]
                                     rfl
                                    refine take_ (i := 6) (N := some 243) (v := ?_) (a' := ?_) #[true, true, true, true, true, true, true, false, false, true, true, true, true, false, false, false, false, false, false, false, false, false, false, false, false, false, false, false, false, false] rfl rfl (take_ofW HT_.out HW_.out (by kernel_rfl)) (fun _ _ _ h => h) (Or.inl ⟨by rfl, ?_⟩) hHeld ?_ ?_
                                    rotate_left
                                    ·rintro w' ⟨s0, s1, s2, s3⟩
                                     go_simp
                                     with_reducible rfl
                                    rotate_left
                                    ·simp only [Act.put, List.setIfInBounds_toArray, List.set_cons_zero, List.set_cons_succ, i64_w, i32_w]
                                     rfl
                                    refine pure_ (i := 7) (N := some 244) (v := ?_) (a' := ?_) #[true, true, true, true, true, true, true, true, false, true, true, true, true, false, false, false, false, false, false, false, false, false, false, false, false, false, false, false, false, false] rfl rfl (any_of HT_.out (by kernel_rfl)) (fun _ _ _ h => h) (Or.inl ⟨by rfl, ?_⟩) ?_ ?_
                                    rotate_left
                                    ·intro w'
                                     go_simp
                                     with_reducible rfl
                                    rotate_left
                                    ·simp only [Act.put, List.setIfInBounds_toArray, List.set_cons_zero, List.set_cons_succ, i64_w, i32_w]
                                     rfl
                                    refine take_ (i := 8) (N := some 245) (v := ?_) (a' := ?_) #[true, true, true, true, true, true, true, true, true, true, true, true, true, false, false, false, false, false, false, false, false, false, false, false, false, false, false, false, false, false] rfl rfl (take_ofW HT_.out HW_.out (by kernel_rfl)) (fun _ _ _ h => h) (Or.inl ⟨by rfl, ?_⟩) hHeld ?_ ?_
                                    rotate_left
                                    ·rintro w' ⟨s0, s1, s2, s3⟩
                                     go_simp
                                     with_reducible rfl
                                    rotate_left
                                    ·simp only [Act.put, List.setIfInBounds_toArray, List.set_cons_zero, List.set_cons_succ, i64_w, i32_w]
                                     rfl
                                    refine take_ (i := 13) (N := some 250) (v := ?_) (a' := ?_) #[true, true, true, true, true, true, true, true, true, true, true, true, true, true, false, false, false, false, false, false, false, false, false, false, false, false, false, false, false, false] rfl rfl (take_ofW HT_.out HW_.out (by kernel_rfl)) (fun _ _ _ h => h) (Or.inl ⟨by rfl, ?_⟩) hHeld ?_ ?_
                                    rotate_left
                                    ·rintro w' ⟨s0, s1, s2, s3⟩
                                     go_simp
                                     with_reducible rfl
                                    rotate_left
                                    ·simp only [Act.put, List.setIfInBounds_toArray, List.set_cons_zero, List.set_cons_succ, i64_w, i32_w]
                                     rfl
                                    refine pure_ (i := 14) (N := some 251) (v := ?_) (a' := ?_) #[true, true, true, true, true, true, true, true, true, true, true, true, true, true, true, false, false, false, false, false, false, false, false, false, false, false, false, false, false, false] rfl rfl (any_of HT_.out (by kernel_rfl)) (fun _ _ _ h => h) (Or.inl ⟨by rfl, ?_⟩) ?_ ?_
                                    rotate_left
                                    ·intro w'
                                     go_simp
                                     with_reducible rfl
                                    rotate_left
                                    ·simp only [Act.put, List.setIfInBounds_toArray, List.set_cons_zero, List.set_cons_succ, i64_w, i32_w]
                                     rfl
                                    refine take_ (i := 15) (N := some 252) (v := ?_) (a' := ?_) #[true, true, true, true, true, true, true, true, true, true, true, true, true, true, true, true, false, false, false, false, false, false, false, false, false, false, false, false, false, false] rfl rfl (take_ofW HT_.out HW_.out (by kernel_rfl)) (fun _ _ _ h => h) (Or.inl ⟨by rfl, ?_⟩) hHeld ?_ ?_
                                    rotate_left
                                    ·rintro w' ⟨s0, s1, s2, s3⟩
                                     go_simp
                                     with_reducible rfl
                                    rotate_left
                                    ·simp only [Act.put, List.setIfInBounds_toArray, List.set_cons_zero, List.set_cons_succ, i64_w, i32_w]
                                     rfl
                                    refine pure_ (i := 16) (N := some 253) (v := ?_) (a' := ?_) #[true, true, true, true, true, true, true, true, true, true, true, true, true, true, true, true, true, false, false, false, false, false, false, false, false, false, false, false, false, false] rfl rfl (any_of HT_.out (by kernel_rfl)) (fun _ _ _ h => h) (Or.inl ⟨by rfl, ?_⟩) ?_ ?_
                                    rotate_left
                                    ·intro w'
                                     go_simp
                                     with_reducible rfl
                                    rotate_left
                                    ·simp only [Act.put, List.setIfInBounds_toArray, List.set_cons_zero, List.set_cons_succ, i64_w, i32_w]
                                     rfl
                                    refine pure_ (i := 17) (N := some 254) (v := ?_) (a' := ?_) #[true, true, true, true, true, true, true, true, true, true, true, true, true, true, true, true, true, true, false, false, false, false, false, false, false, false, false, false, false, false] rfl rfl (any_of HT_.out (by kernel_rfl)) (fun _ _ _ h => h) (Or.inl ⟨by rfl, ?_⟩) ?_ ?_
                                    rotate_left
                                    ·intro w'
                                     go_simp
                                     with_reducible rfl
                                    rotate_left
                                    ·simp only [Act.put, List.setIfInBounds_toArray, List.set_cons_zero, List.set_cons_succ, i64_w, i32_w]
                                     rfl
                                    refine pure_ (i := 18) (N := some 255) (v := undef) (a' := ?_) #[true, true, true, true, true, true, true, true, true, true, true, true, true, true, true, true, true, true, true, false, false, false, false, false, false, false, false, false, false, false] rfl rfl (any_of HT_.out (by kernel_rfl)) (fun _ _ _ h => h) (Or.inr ⟨by rfl, rfl⟩) ?_ ?_
                                    rotate_left
                                    ·simp only [Act.put, List.setIfInBounds_toArray, List.set_cons_zero, List.set_cons_succ, i64_w, i32_w]
                                     rfl
                                    refine pure_ (i := 19) (N := some 256) (v := undef) (a' := ?_) #[true, true, true, true, true, true, true, true, true, true, true, true, true, true, true, true, true, true, true, true, false, false, false, false, false, false, false, false, false, false] rfl rfl (any_of HT_.out (by kernel_rfl)) (fun _ _ _ h => h) (Or.inr ⟨by rfl, rfl⟩) ?_ ?_
                                    rotate_left
                                    ·simp only [Act.put, List.setIfInBounds_toArray, List.set_cons_zero, List.set_cons_succ, i64_w, i32_w]
                                     rfl
                                    refine pure_ (i := 20) (N := some 257) (v := undef) (a' := ?_) #[true, true, true, true, true, true, true, true, true, true, true, true, true, true, true, true, true, true, true, true, true, false, false, false, false, false, false, false, false, false] rfl rfl (any_of HT_.out (by kernel_rfl)) (fun _ _ _ h => h) (Or.inr ⟨by rfl, rfl⟩) ?_ ?_
                                    rotate_left
                                    ·simp only [Act.put, List.setIfInBounds_toArray, List.set_cons_zero, List.set_cons_succ, i64_w, i32_w]
                                     rfl
                                    refine pure_ (i := 21) (N := some 258) (v := undef) (a' := ?_) #[true, true, true, true, true, true, true, true, true, true, true, true, true, true, true, true, true, true, true, true, true, true, false, false, false, false, false, false, false, false] rfl rfl (any_of HT_.out (by kernel_rfl)) (fun _ _ _ h => h) (Or.inr ⟨by rfl, rfl⟩) ?_ ?_
                                    rotate_left
                                    ·simp only [Act.put, List.setIfInBounds_toArray, List.set_cons_zero, List.set_cons_succ, i64_w, i32_w]
                                     rfl
                                    refine pure_ (i := 22) (N := some 259) (v := undef) (a' := ?_) #[true, true, true, true, true, true, true, true, true, true, true, true, true, true, true, true, true, true, true, true, true, true, true, false, false, false, false, false, false, false] rfl rfl (any_of HT_.out (by kernel_rfl)) (fun _ _ _ h => h) (Or.inr ⟨by rfl, rfl⟩) ?_ ?_
                                    rotate_left
                                    ·simp only [Act.put, List.setIfInBounds_toArray, List.set_cons_zero, List.set_cons_succ, i64_w, i32_w]
                                     rfl
                                    refine pure_ (i := 23) (N := some 260) (v := undef) (a' := ?_) #[true, true, true, true, true, true, true, true, true, true, true, true, true, true, true, true, true, true, true, true, true, true, true, true, false, false, false, false, false, false] rfl rfl (any_of HT_.out (by kernel_rfl)) (fun _ _ _ h => h) (Or.inr ⟨by rfl, rfl⟩) ?_ ?_
                                    rotate_left
                                    ·simp only [Act.put, List.setIfInBounds_toArray, List.set_cons_zero, List.set_cons_succ, i64_w, i32_w]
                                     rfl
                                    refine pure_ (i := 24) (N := some 261) (v := undef) (a' := ?_) #[true, true, true, true, true, true, true, true, true, true, true, true, true, true, true, true, true, true, true, true, true, true, true, true, true, false, false, false, false, false] rfl rfl (any_of HT_.out (by kernel_rfl)) (fun _ _ _ h => h) (Or.inr ⟨by rfl, rfl⟩) ?_ ?_
                                    rotate_left
                                    ·simp only [Act.put, List.setIfInBounds_toArray, List.set_cons_zero, List.set_cons_succ, i64_w, i32_w]
                                     rfl
                                    refine pure_ (i := 25) (N := some 262) (v := undef) (a' := ?_) #[true, true, true, true, true, true, true, true, true, true, true, true, true, true, true, true, true, true, true, true, true, true, true, true, true, true, false, false, false, false] rfl rfl (any_of HT_.out (by kernel_rfl)) (fun _ _ _ h => h) (Or.inr ⟨by rfl, rfl⟩) ?_ ?_
                                    rotate_left
                                    ·simp only [Act.put, List.setIfInBounds_toArray, List.set_cons_zero, List.set_cons_succ, i64_w, i32_w]
                                     rfl
                                    refine pure_ (i := 26) (N := some 263) (v := undef) (a' := ?_) #[true, true, true, true, true, true, true, true, true, true, true, true, true, true, true, true, true, true, true, true, true, true, true, true, true, true, true, false, false, false] rfl rfl (any_of HT_.out (by kernel_rfl)) (fun _ _ _ h => h) (Or.inr ⟨by rfl, rfl⟩) ?_ ?_
                                    rotate_left
                                    ·simp only [Act.put, List.setIfInBounds_toArray, List.set_cons_zero, List.set_cons_succ, i64_w, i32_w]
                                     rfl
                                    refine pure_ (i := 27) (N := some 264) (v := ?_) (a' := ?_) #[true, true, true, true, true, true, true, true, true, true, true, true, true, true, true, true, true, true, true, true, true, true, true, true, true, true, true, true, false, false] rfl rfl (any_of HT_.out (by kernel_rfl)) (fun _ _ _ h => h) (Or.inl ⟨by rfl, ?_⟩) ?_ ?_
                                    rotate_left
                                    ·intro w'
                                     go_simp
                                     with_reducible rfl
                                    rotate_left
                                    ·simp only [Act.put, List.setIfInBounds_toArray, List.set_cons_zero, List.set_cons_succ, i64_w, i32_w]
                                     rfl
                                    refine pure_ (i := 28) (N := some 265) (v := ?_) (a' := ?_) #[true, true, true, true, true, true, true, true, true, true, true, true, true, true, true, true, true, true, true, true, true, true, true, true, true, true, true, true, true, false] rfl rfl (any_of HT_.out (by kernel_rfl)) (fun _ _ _ h => h) (Or.inl ⟨by rfl, ?_⟩) ?_ ?_
                                    rotate_left
                                    ·intro w'
                                     go_simp
                                     with_reducible rfl
                                    rotate_left
                                    ·simp only [Act.put, List.setIfInBounds_toArray, List.set_cons_zero, List.set_cons_succ, i64_w, i32_w]
                                     rfl
                                    refine pure_ (i := 29) (N := some 31) (v := ?_) (a' := ?_) #[true, true, true, true, true, true, true, true, true, true, true, true, true, true, true, true, true, true, true, true, true, true, true, true, true, true, true, true, true, true] rfl rfl (any_of HT_.out (by kernel_rfl)) (fun _ _ _ h => h) (Or.inl ⟨by rfl, ?_⟩) ?_ ?_
                                    rotate_left
                                    ·intro w'
                                     go_simp
                                     with_reducible rfl
                                    rotate_left
                                    ·simp only [Act.put, List.setIfInBounds_toArray, List.set_cons_zero, List.set_cons_succ, i64_w, i32_w]
                                     rfl
                                    refine done_ (done_of HT_.out (by kernel_rfl)) ?_
                                    try go_wp2
                                    go_roundg k7
                                    case measure => have := HJ11.out; have := HJ51.out; have := HK3.out; have := HK4.out; have := HJ92.out; have := HK6.out; have := HK7.out; omega
                                    case rel => exact ⟨(true), (wrap64 (x33_7 + 1)), (by first | rfl | (simp; done) | (simp [*]; done)), (by first | rfl | (simp; done) | (simp [*]; done)), H', ⟨by have := HJ11.out; have := HJ51.out; have := HK3.out; have := HK4.out; have := HJ92.out; have := HK6.out; have := HK7.out; omega⟩, ⟨by (with_reducible repeat (first | apply Kd.R_alloc | apply Kd.R_drewN | apply Kd.R_drew)); exact HO_6.out⟩, ⟨by (with_reducible repeat (first | apply Kd.R_alloc | apply Kd.R_drewN | apply Kd.R_drew)); exact HO_25.out⟩, ⟨by repeat (first | (with_reducible first | exact HB.out | apply below_alloc | apply pw_below_drewN | apply below_drew1) | exact HB.out)⟩⟩
                                  ·rw [if_neg c109] at H
                                   exact absurd H (by simp)
                                 ·rw [if_neg c108] at H
                                  exact absurd H (by simp)
                                ·rw [if_neg c107] at H
                                 exact absurd H (by simp)
                               ·rw [if_neg c106] at H
                                exact absurd H (by simp)
                              ·rw [if_neg c105] at H
                               exact absurd H (by simp)
                             ·rw [if_neg c104] at H
                              exact absurd H (by simp)
                            ·rw [if_neg c103] at H
                             exact absurd H (by simp)
                           ·rw [if_neg c102] at H
                            exact absurd H (by simp)
                          ·replace c101 := Bool.eq_false_iff.mpr c101
                           subst c101
                           have H1 : (laws_FnUnwound.l4 k7 t259 t260 x25_4 t306 false x32_6 (wrap64 (x33_7 + 1))) = some r := by rw [if_neg (show ¬ (false = true) by decide)] at H; exact H
                           clear H
                           have H := H1
                           clear H1
                           have H' := Aside0.mk H
                           clear H
                           try go_wp2
                           have n0_ := Aside0.mk (Kd.R_drew HO_6.out)
                           have n1_ := Aside0.mk (Kd.R_drew HO_25.out)
                           have n2_ := Aside0.mk (below_drew1 HB.out)
                           clear HO_6
                           clear HO_25
                           clear HB
                           have HO_6 := n0_
                           have HO_25 := n1_
                           have HB := n2_
                           clear n0_ n1_ n2_
                           refine start_ (n := 30) (S := fun w' => True) (ds := []) #[false, false, false, false, false, false, false, false, false, false, false, false, false, false, false, false, false, false, false, false, false, false, false, false, false, false, false, false, false, false] (by kernel_rfl) rfl rfl trivial (fun hHeld => ?_); refine with_tabW laws_FnUnwound.tab45 laws_FnUnwound.bits45 (fun HT_ HW_ => ?_)
                           generalize wr.drew = w113 at HO_6 HO_25 HB hHeld ⊢
                           refine pure_ (i := 0) (N := some 237) (v := ?_) (a' := ?_) #[true, false, false, false, false, false, false, false, false, false, false, false, false, false, false, false, false, false, false, false, false, false, false, false, false, false, false, false, false, false] rfl rfl (any_of HT_.out (by kernel_rfl)) (fun _ _ _ h => h) (Or.inl ⟨by rfl, ?_⟩) ?_ ?_
                           rotate_left
                           ·intro w'
                            go_simp
                            with_reducible rfl
                           rotate_left
                           ·simp only [Act.put, List.setIfInBounds_toArray, List.set_cons_zero, List.set_cons_succ, i64_w, i32_w]
                            rfl
                           refine pure_ (i := 1) (N := some 238) (v := ?_) (a' := ?_) #[true, true, false, false, false, false, false, false, false, false, false, false, false, false, false, false, false, false, false, false, false, false, false, false, false, false, false, false, false, false] rfl rfl (any_of HT_.out (by kernel_rfl)) (fun _ _ _ h => h) (Or.inl ⟨by rfl, ?_⟩) ?_ ?_
                           rotate_left
                           ·intro w'
                            go_simp
                            with_reducible rfl
                           rotate_left
                           ·simp only [Act.put, List.setIfInBounds_toArray, List.set_cons_zero, List.set_cons_succ, i64_w, i32_w]
                            rfl
                           refine pure_ (i := 2) (N := some 239) (v := undef) (a' := ?_) #[true, true, true, false, false, false, false, false, false, false, false, false, false, false, false, false, false, false, false, false, false, false, false, false, false, false, false, false, false, false] rfl rfl (any_of HT_.out (by kernel_rfl)) (fun _ _ _ h => h) (Or.inr ⟨by rfl, rfl⟩) ?_ ?_
                           rotate_left
                           ·simp only [Act.put, List.setIfInBounds_toArray, List.set_cons_zero, List.set_cons_succ, i64_w, i32_w]
                            rfl
                           refine pure_ (i := 3) (N := some 240) (v := undef) (a' := ?_) #[true, true, true, true, false, false, false, false, false, false, false, false, false, false, false, false, false, false, false, false, false, false, false, false, false, false, false, false, false, false] rfl rfl (any_of HT_.out (by kernel_rfl)) (fun _ _ _ h => h) (Or.inr ⟨by rfl, rfl⟩) ?_ ?_
                           rotate_left
                           ·simp only [Act.put, List.setIfInBounds_toArray, List.set_cons_zero, List.set_cons_succ, i64_w, i32_w]
                            rfl
                           refine pure_ (i := 4) (N := some 241) (v := undef) (a' := ?_) #[true, true, true, true, true, false, false, false, false, false, false, false, false, false, false, false, false, false, false, false, false, false, false, false, false, false, false, false, false, false] rfl rfl (any_of HT_.out (by kernel_rfl)) (fun _ _ _ h => h) (Or.inr ⟨by rfl, rfl⟩) ?_ ?_
                           rotate_left
                           ·simp only [Act.put, List.setIfInBounds_toArray, List.set_cons_zero, List.set_cons_succ, i64_w, i32_w]
                            rfl
                           refine pure_ (i := 5) (N := some 242) (v := undef) (a' := ?_) #[true, true, true, true, true, true, false, false, false, false, false, false, false, false, false, false, false, false, false, false, false, false, false, false, false, false, false, false, false, false] rfl rfl (any_of HT_.out (by kernel_rfl)) (fun _ _ _ h => h) (Or.inr ⟨by rfl, rfl⟩) ?_ ?_
                           rotate_left
                           ·simp only [Act.put, List.setIfInBounds_toArray, List.set_cons_zero, List.set_cons_succ, i64_w, i32_w]
                            rfl
                           refine pure_ (i := 6) (N := some 243) (v := undef) (a' := ?_) #[true, true, true, true, true, true, true, false, false, false, false, false, false, false, false, false, false, false, false, false, false, false, false, false, false, false, false, false, false, false] rfl rfl (any_of HT_.out (by kernel_rfl)) (fun _ _ _ h => h) (Or.inr ⟨by rfl, rfl⟩) ?_ ?_
                           rotate_left
                           ·simp only [Act.put, List.setIfInBounds_toArray, List.set_cons_zero, List.set_cons_succ, i64_w, i32_w]
                            rfl
                           refine pure_ (i := 7) (N := some 244) (v := undef) (a' := ?_) #[true, true, true, true, true, true, true, true, false, false, false, false, false, false, false, false, false, false, false, false, false, false, false, false, false, false, false, false, false, false] rfl rfl (any_of HT_.out (by kernel_rfl)) (fun _ _ _ h => h) (Or.inr ⟨by rfl, rfl⟩) ?_ ?_
                           rotate_left
                           ·simp only [Act.put, List.setIfInBounds_toArray, List.set_cons_zero, List.set_cons_succ, i64_w, i32_w]
                            rfl
                           refine pure_ (i := 8) (N := some 245) (v := undef) (a' := ?_) #[true, true, true, true, true, true, true, true, true, false, false, false, false, false, false, false, false, false, false, false, false, false, false, false, false, false, false, false, false, false] rfl rfl (any_of HT_.out (by kernel_rfl)) (fun _ _ _ h => h) (Or.inr ⟨by rfl, rfl⟩) ?_ ?_
                           rotate_left
                           ·simp only [Act.put, List.setIfInBounds_toArray, List.set_cons_zero, List.set_cons_succ, i64_w, i32_w]
                            rfl
                           refine pure_ (i := 9) (N := some 246) (v := undef) (a' := ?_) #[true, true, true, true, true, true, true, true, true, true, false, false, false, false, false, false, false, false, false, false, false, false, false, false, false, false, false, false, false, false] rfl rfl (any_of HT_.out (by kernel_rfl)) (fun _ _ _ h => h) (Or.inr ⟨by rfl, rfl⟩) ?_ ?_
                           rotate_left
                           ·simp only [Act.put, List.setIfInBounds_toArray, List.set_cons_zero, List.set_cons_succ, i64_w, i32_w]
                            rfl
                           refine pure_ (i := 10) (N := some 247) (v := undef) (a' := ?_) #[true, true, true, true, true, true, true, true, true, true, true, false, false, false, false, false, false, false, false, false, false, false, false, false, false, false, false, false, false, false] rfl rfl (any_of HT_.out (by kernel_rfl)) (fun _ _ _ h => h) (Or.inr ⟨by rfl, rfl⟩) ?_ ?_
                           rotate_left
                           ·simp only [Act.put, List.setIfInBounds_toArray, List.set_cons_zero, List.set_cons_succ, i64_w, i32_w]
                            rfl
                           refine pure_ (i := 11) (N := some 248) (v := undef) (a' := ?_) #[true, true, true, true, true, true, true, true, true, true, true, true, false, false, false, false, false, false, false, false, false, false, false, false, false, false, false, false, false, false] rfl rfl (any_of HT_.out (by kernel_rfl)) (fun _ _ _ h => h) (Or.inr ⟨by rfl, rfl⟩) ?_ ?_
                           rotate_left
                           ·simp only [Act.put, List.setIfInBounds_toArray, List.set_cons_zero, List.set_cons_succ, i64_w, i32_w]
                            rfl
                           refine pure_ (i := 12) (N := some 249) (v := undef) (a' := ?_) #[true, true, true, true, true, true, true, true, true, true, true, true, true, false, false, false, false, false, false, false, false, false, false, false, false, false, false, false, false, false] rfl rfl (any_of HT_.out (by kernel_rfl)) (fun _ _ _ h => h) (Or.inr ⟨by rfl, rfl⟩) ?_ ?_
                           rotate_left
                           ·simp only [Act.put, List.setIfInBounds_toArray, List.set_cons_zero, List.set_cons_succ, i64_w, i32_w]
                            rfl
                           refine pure_ (i := 13) (N := some 250) (v := undef) (a' := ?_) #[true, true, true, true, true, true, true, true, true, true, true, true, true, true, false, false, false, false, false, false, false, false, false, false, false, false, false, false, false, false] rfl rfl (any_of HT_.out (by kernel_rfl)) (fun _ _ _ h => h) (Or.inr ⟨by rfl, rfl⟩) ?_ ?_
                           rotate_left
                           ·simp only [Act.put, List.setIfInBounds_toArray, List.set_cons_zero, List.set_cons_succ, i64_w, i32_w]
                            rfl
                           refine pure_ (i := 14) (N := some 251) (v := undef) (a' := ?_) #[true, true, true, true, true, true, true, true, true, true, true, true, true, true, true, false, false, false, false, false, false, false, false, false, false, false, false, false, false, false] rfl rfl (any_of HT_.out (by kernel_rfl)) (fun _ _ _ h => h) (Or.inr ⟨by rfl, rfl⟩) ?_ ?_
                           rotate_left
                           ·simp only [Act.put, List.setIfInBounds_toArray, List.set_cons_zero, List.set_cons_succ, i64_w, i32_w]
                            rfl
                           refine pure_ (i := 15) (N := some 252) (v := undef) (a' := ?_) #[true, true, true, true, true, true, true, true, true, true, true, true, true, true, true, true, false, false, false, false, false, false, false, false, false, false, false, false, false, false] rfl rfl (any_of HT_.out (by kernel_rfl)) (fun _ _ _ h => h) (Or.inr ⟨by rfl, rfl⟩) ?_ ?_
                           rotate_left
                           ·simp only [Act.put, List.setIfInBounds_toArray, List.set_cons_zero, List.set_cons_succ, i64_w, i32_w]
                            rfl
                           refine pure_ (i := 16) (N := some 253) (v := undef) (a' := ?_) #[true, true, true, true, true, true, true, true, true, true, true, true, true, true, true, true, true, false, false, false, false, false, false, false, false, false, false, false, false, false] rfl rfl (any_of HT_.out (by kernel_rfl)) (fun _ _ _ h => h) (Or.inr ⟨by rfl, rfl⟩) ?_ ?_
                           rotate_left
                           ·simp only [Act.put, List.setIfInBounds_toArray, List.set_cons_zero, List.set_cons_succ, i64_w, i32_w]
                            rfl
                           refine pure_ (i := 17) (N := some 254) (v := undef) (a' := ?_) #[true, true, true, true, true, true, true, true, true, true, true, true, true, true, true, true, true, true, false, false, false, false, false, false, false, false, false, false, false, false] rfl rfl (any_of HT_.out (by kernel_rfl)) (fun _ _ _ h => h) (Or.inr ⟨by rfl, rfl⟩) ?_ ?_
                           rotate_left
                           ·simp only [Act.put, List.setIfInBounds_toArray, List.set_cons_zero, List.set_cons_succ, i64_w, i32_w]
                            rfl
                           refine pure_ (i := 18) (N := some 255) (v := undef) (a' := ?_) #[true, true, true, true, true, true, true, true, true, true, true, true, true, true, true, true, true, true, true, false, false, false, false, false, false, false, false, false, false, false] rfl rfl (any_of HT_.out (by kernel_rfl)) (fun _ _ _ h => h) (Or.inr ⟨by rfl, rfl⟩) ?_ ?_
                           rotate_left
                           ·simp only [Act.put, List.setIfInBounds_toArray, List.set_cons_zero, List.set_cons_succ, i64_w, i32_w]
                            rfl
                           refine pure_ (i := 19) (N := some 256) (v := undef) (a' := ?_) #[true, true, true, true, true, true, true, true, true, true, true, true, true, true, true, true, true, true, true, true, false, false, false, false, false, false, false, false, false, false] rfl rfl (any_of HT_.out (by kernel_rfl)) (fun _ _ _ h => h) (Or.inr ⟨by rfl, rfl⟩) ?_ ?_
                           rotate_left
                           ·simp only [Act.put, List.setIfInBounds_toArray, List.set_cons_zero, List.set_cons_succ, i64_w, i32_w]
                            rfl
                           refine pure_ (i := 20) (N := some 257) (v := undef) (a' := ?_) #[true, true, true, true, true, true, true, true, true, true, true, true, true, true, true, true, true, true, true, true, true, false, false, false, false, false, false, false, false, false] rfl rfl (any_of HT_.out (by kernel_rfl)) (fun _ _ _ h => h) (Or.inr ⟨by rfl, rfl⟩) ?_ ?_
                           rotate_left
                           ·simp only [Act.put, List.setIfInBounds_toArray, List.set_cons_zero, List.set_cons_succ, i64_w, i32_w]
                            rfl
                           refine pure_ (i := 21) (N := some 258) (v := undef) (a' := ?_) #[true, true, true, true, true, true, true, true, true, true, true, true, true, true, true, true, true, true, true, true, true, true, false, false, false, false, false, false, false, false] rfl rfl (any_of HT_.out (by kernel_rfl)) (fun _ _ _ h => h) (Or.inr ⟨by rfl, rfl⟩) ?_ ?_
                           rotate_left
                           ·simp only [Act.put, List.setIfInBounds_toArray, List.set_cons_zero, List.set_cons_succ, i64_w, i32_w]
                            rfl
                           refine pure_ (i := 22) (N := some 259) (v := undef) (a' := ?_) #[true, true, true, true, true, true, true, true, true, true, true, true, true, true, true, true, true, true, true, true, true, true, true, false, false, false, false, false, false, false] rfl rfl (any_of HT_.out (by kernel_rfl)) (fun _ _ _ h => h) (Or.inr ⟨by rfl, rfl⟩) ?_ ?_
                           rotate_left
                           ·simp only [Act.put, List.setIfInBounds_toArray, List.set_cons_zero, List.set_cons_succ, i64_w, i32_w]
                            rfl
                           refine pure_ (i := 23) (N := some 260) (v := undef) (a' := ?_) #[true, true, true, true, true, true, true, true, true, true, true, true, true, true, true, true, true, true, true, true, true, true, true, true, false, false, false, false, false, false] rfl rfl (any_of HT_.out (by kernel_rfl)) (fun _ _ _ h => h) (Or.inr ⟨by rfl, rfl⟩) ?_ ?_
                           rotate_left
                           ·simp only [Act.put, List.setIfInBounds_toArray, List.set_cons_zero, List.set_cons_succ, i64_w, i32_w]
                            rfl
                           refine pure_ (i := 24) (N := some 261) (v := undef) (a' := ?_) #[true, true, true, true, true, true, true, true, true, true, true, true, true, true, true, true, true, true, true, true, true, true, true, true, true, false, false, false, false, false] rfl rfl (any_of HT_.out (by kernel_rfl)) (fun _ _ _ h => h) (Or.inr ⟨by rfl, rfl⟩) ?_ ?_
                           rotate_left
                           ·simp only [Act.put, List.setIfInBounds_toArray, List.set_cons_zero, List.set_cons_succ, i64_w, i32_w]
                            rfl
                           refine pure_ (i := 25) (N := some 262) (v := undef) (a' := ?_) #[true, true, true, true, true, true, true, true, true, true, true, true, true, true, true, true, true, true, true, true, true, true, true, true, true, true, false, false, false, false] rfl rfl (any_of HT_.out (by kernel_rfl)) (fun _ _ _ h => h) (Or.inr ⟨by rfl, rfl⟩) ?_ ?_
                           rotate_left
                           ·simp only [Act.put, List.setIfInBounds_toArray, List.set_cons_zero, List.set_cons_succ, i64_w, i32_w]
                            rfl
                           refine pure_ (i := 26) (N := some 263) (v := undef) (a' := ?_) #[true, true, true, true, true, true, true, true, true, true, true, true, true, true, true, true, true, true, true, true, true, true, true, true, true, true, true, false, false, false] rfl rfl (any_of HT_.out (by kernel_rfl)) (fun _ _ _ h => h) (Or.inr ⟨by rfl, rfl⟩) ?_ ?_
                           rotate_left
                           ·simp only [Act.put, List.setIfInBounds_toArray, List.set_cons_zero, List.set_cons_succ, i64_w, i32_w]
                            rfl
                           refine pure_ (i := 27) (N := some 264) (v := undef) (a' := ?_) #[true, true, true, true, true, true, true, true, true, true, true, true, true, true, true, true, true, true, true, true, true, true, true, true, true, true, true, true, false, false] rfl rfl (any_of HT_.out (by kernel_rfl)) (fun _ _ _ h => h) (Or.inr ⟨by rfl, rfl⟩) ?_ ?_
                           rotate_left
                           ·simp only [Act.put, List.setIfInBounds_toArray, List.set_cons_zero, List.set_cons_succ, i64_w, i32_w]
                            rfl
                           refine pure_ (i := 28) (N := some 265) (v := ?_) (a' := ?_) #[true, true, true, true, true, true, true, true, true, true, true, true, true, true, true, true, true, true, true, true, true, true, true, true, true, true, true, true, true, false] rfl rfl (any_of HT_.out (by kernel_rfl)) (fun _ _ _ h => h) (Or.inl ⟨by rfl, ?_⟩) ?_ ?_
                           rotate_left
                           ·intro w'
                            go_simp
                            with_reducible rfl
                           rotate_left
                           ·simp only [Act.put, List.setIfInBounds_toArray, List.set_cons_zero, List.set_cons_succ, i64_w, i32_w]
                            rfl
                           refine pure_ (i := 29) (N := some 31) (v := ?_) (a' := ?_) #[true, true, true, true, true, true, true, true, true, true, true, true, true, true, true, true, true, true, true, true, true, true, true, true, true, true, true, true, true, true] rfl rfl (any_of HT_.out (by kernel_rfl)) (fun _ _ _ h => h) (Or.inl ⟨by rfl, ?_⟩) ?_ ?_
                           rotate_left
                           ·intro w'
                            go_simp
                            with_reducible rfl
                           rotate_left
                           ·simp only [Act.put, List.setIfInBounds_toArray, List.set_cons_zero, List.set_cons_succ, i64_w, i32_w]
                            rfl
                           refine done_ (done_of HT_.out (by kernel_rfl)) ?_
                           try go_wp2
                           go_roundg k7
                           case measure => have := HJ11.out; have := HJ51.out; have := HK3.out; have := HK4.out; have := HJ92.out; have := HK6.out; have := HK7.out; omega
                           case rel => exact ⟨(false), (wrap64 (x33_7 + 1)), (by first | rfl | (simp; done) | (simp [*]; done)), (by first | rfl | (simp; done) | (simp [*]; done)), H', ⟨by have := HJ11.out; have := HJ51.out; have := HK3.out; have := HK4.out; have := HJ92.out; have := HK6.out; have := HK7.out; omega⟩, ⟨by (with_reducible repeat (first | apply Kd.R_alloc | apply Kd.R_drewN | apply Kd.R_drew)); exact HO_6.out⟩, ⟨by (with_reducible repeat (first | apply Kd.R_alloc | apply Kd.R_drewN | apply Kd.R_drew)); exact HO_25.out⟩, ⟨by repeat (first | (with_reducible first | exact HB.out | apply below_alloc | apply pw_below_drewN | apply below_drew1) | exact HB.out)⟩⟩
                         ·rw [if_neg c100] at H
                          have c100b0 : decide (x33_7 < t259) = false := decide_eq_false c100
                          clear c100
                          have H' := Aside0.mk H
                          clear H
                          go_wp2
                          go_roundg k7
                          case measure => have := HJ11.out; have := HJ51.out; have := HK3.out; have := HK4.out; have := HJ92.out; have := HK6.out; have := HK7.out; omega
                          case rel => exact ⟨(x31_7), (wrap64 (x32_6 + 1)), (by first | rfl | (simp; done) | (simp [*]; done)), (by first | rfl | (simp; done) | (simp [*]; done)), H', ⟨by have := HJ11.out; have := HJ51.out; have := HK3.out; have := HK4.out; have := HJ92.out; have := HK6.out; have := HK7.out; omega⟩, ⟨by (with_reducible repeat (first | apply Kd.R_alloc | apply Kd.R_drewN | apply Kd.R_drew)); exact HO_6.out⟩, ⟨by (with_reducible repeat (first | apply Kd.R_alloc | apply Kd.R_drewN | apply Kd.R_drew)); exact HO_25.out⟩, ⟨by repeat (first | (with_reducible first | exact HB.out | apply below_alloc | apply pw_below_drewN | apply below_drew1) | exact HB.out)⟩⟩
                      ·rw [if_neg c99] at H
                       have c99b0 : decide (x32_6 < t259) = false := decide_eq_false c99
                       clear c99
                       obtain rfl := Option.some.inj H
                       go_wp2
                       go_ret
                       exact ⟨by first | rfl | (simp [errW_none, errW_some] <;> rfl) | (simp [*, errW_none, errW_some] <;> rfl), by repeat (first | (with_reducible first | exact HB.out | apply below_alloc | apply pw_below_drewN | apply below_drew1) | exact HB.out)⟩
             ·rw [if_neg c84] at H
              exact absurd H (by simp)
         ·rw [if_neg c58] at H
          exact absurd H (by simp)
        ·rw [if_neg c57] at H
         exact absurd H (by simp)

/-- THE ONE PURE STATEMENT of laws_FnUnwound: yours. -/
def laws_FnUnwound.Pure : Prop := ∀ (l0 : List Int) (l1 : List Int), (l0.length * 1 ≤ 140737488351232 ∧ ∀ x_ ∈ l0, (Lit.int .u8 x_).wf = true) → (l1.length * 1 ≤ 140737488351232 ∧ ∀ x_ ∈ l1, (Lit.int .u8 x_).wf = true) → ∃ k, laws_FnUnwound.f k l0 l1 = some true
theorem laws_FnUnwound.walk (P : laws_FnUnwound.Pure) (A0 : Option Addr) (c0 : Nat) (l0 : List Int) (A1 : Option Addr) (c1 : Nat) (l1 : List Int) (w : World) (hr0 : Kd.C (Kd.int .u8) w A0 l0.length l0) (hc0 : l0.length ≤ c0) (hr1 : Kd.C (Kd.int .u8) w A1 l1.length l1) (hc1 : l1.length ≤ c1) (g0 : (l0.length * 1 ≤ 140737488351232 ∧ ∀ x_ ∈ l0, (Lit.int .u8 x_).wf = true)) (g1 : (l1.length * 1 ≤ 140737488351232 ∧ ∀ x_ ∈ l1, (Lit.int .u8 x_).wf = true)) :
  Calls Try.prog 3 #[.slice A0 l0.length c0, .slice A1 l1.length c1] w fun e w' => e = .returned (.bool true) ∧ Below w.heap.size w w' := by
 obtain ⟨k, h⟩ := P l0 l1 g0 g1
 refine (laws_FnUnwound.calls k A0 c0 l0 A1 c1 l1 true w hr0 hc0 hr1 hc1 h).mono ?_
 rintro e w' ⟨rfl, hd⟩
 exact ⟨rfl, hd⟩

end Go.Proofs.Ytjhjabibkkhmjaa.XFnUnwound
