/- The functions that the law FnBalls reaches: each as a Lean function, and that its call does what that function says; no conditions. -/
import Derived.Test.YtpaffbkakgagaaaXFnBallsx0
import Derived.Test.YtpaffbkakgagaaaXFnBallsx1
import Derived.Test.YtpaffbkakgagaaaXFnBallsx2
import Derived.Test.YtpaffbkakgagaaaXFnBallsx3
namespace Go.Proofs.Ytpaffbkakgagaaa.XFnBalls
open Go.RowKit Go.Proofs.YtpaffbkakgagaaaW.PrintWords Go.Proofs.YtpaffbkakgagaaaW.PrintLast Go.Proofs.YtpaffbkakgagaaaW.PrintMore
attribute [local go_sem] max2_int min2_int max_two min_two max_three min_three max_four min_four   -- for this text's walks alone
set_option linter.unusedVariables false
set_option linter.unusedSimpArgs false

/-! ### laws_FnBalls: function 13 -/
mutual
def laws_FnBalls.j0 : Nat → List Int → Int → Int → Int → Int → Bool → Option (Bool)
  | 0, _, _, _, _, _, _ => none
  | k + 1, x1, x5, x6, x7, x8, x101 => if x101 = true then (none) else ((impl_BallTurns.f k x5 x6 x7 x8).bind fun bt161 => ((spec_BallTurns.f k x5 x6 x7 x8).bind fun bt164 => (if bt161.2.2 = bt164.2.2 then (if bt161.2.2 = 0 then (if bt161.1 = bt164.1 then (if bt161.2.1 = bt164.2.1 then (if bt164.2.1 < 0 then (laws_FnBalls.j1 k x1 x5 x6 x7 x8 bt164.1 bt164.2.1 true) else (if x8 = 0 then (none) else (laws_FnBalls.j1 k x1 x5 x6 x7 x8 bt164.1 bt164.2.1 (decide (bt164.2.1 ≥ (wrap64 (x6 + (wrap64 ((wrap64 (Int.tdiv bt164.1 x8)) * x7))))))))) else (laws_FnBalls.j1 k x1 x5 x6 x7 x8 bt164.1 bt164.2.1 true)) else (laws_FnBalls.j1 k x1 x5 x6 x7 x8 bt164.1 bt164.2.1 true)) else (laws_FnBalls.j1 k x1 x5 x6 x7 x8 bt164.1 bt164.2.1 true)) else (laws_FnBalls.j1 k x1 x5 x6 x7 x8 bt164.1 bt164.2.1 true))))
def laws_FnBalls.j1 : Nat → List Int → Int → Int → Int → Int → Int → Int → Bool → Option (Bool)
  | 0, _, _, _, _, _, _, _, _ => none
  | k + 1, x1, x5, x6, x7, x8, x19, x20, x151 => if x151 = true then (none) else (if x19 < 1000 then ((impl_BallLength.f k x19 x6 x7 x8).bind fun bt167 => ((impl_BallLength.f k (wrap64 (x19 + 1)) x6 x7 x8).bind fun bt169 => (if bt167.2 = 0 then (if (wrap64 (bt167.1 + x20)) = x5 then (if bt169.2 = 0 then (if bt169.1 ≤ x5 then (none) else (laws_FnBalls.j2 k x1)) else (none)) else (none)) else (none)))) else (laws_FnBalls.j2 k x1))
def laws_FnBalls.j2 : Nat → List Int → Option (Bool)
  | 0, _ => none
  | k + 1, x1 => (laws_a2At.f x1 1 60).bind fun t171 => ((laws_a2At.f x1 2 9).bind fun t172 => ((impl_TiesFor.f k t171 (wrap64 (1 + t172))).bind fun bt173 => ((spec_TiesFor.f k t171 (wrap64 (1 + t172))).bind fun bt177 => (if bt173.2 = bt177.2 then (if bt173.2 = 0 then ((spec_A2Same.f k bt173.1 bt177.1).bind fun t181 => (if t181 = true then (if (wrap64 (1 + t172)) = 0 then (none) else (laws_FnBalls.j3 k t171 (wrap64 (1 + t172)) bt177.1 ((bt177.1.length : Int) != (wrap64 (Int.tdiv (wrap64 ((wrap64 (t171 + (wrap64 (1 + t172)))) - 1)) (wrap64 (1 + t172))))))) else (laws_FnBalls.j3 k t171 (wrap64 (1 + t172)) bt177.1 true))) else (laws_FnBalls.j3 k t171 (wrap64 (1 + t172)) bt177.1 true)) else (laws_FnBalls.j3 k t171 (wrap64 (1 + t172)) bt177.1 true)))))
def laws_FnBalls.j3 : Nat → Int → Int → List Int → Bool → Option (Bool)
  | 0, _, _, _, _ => none
  | k + 1, x26, x27, x30, x229 => if x229 = true then (none) else (laws_FnBalls.l0 k x26 x27 x30 0)
def laws_FnBalls.l0 : Nat → Int → Int → List Int → Int → Option (Bool)
  | 0, _, _, _, _ => none
  | k + 1, x26, x27, x30, x32 => if x32 < (x30.length : Int) then (if 0 ≤ x32 then (if (rd x30 x32) = (mn x26 (wrap64 (x27 * (wrap64 (x32 + 1))))) then (laws_FnBalls.l0 k x26 x27 x30 (wrap64 (x32 + 1))) else (none)) else (none)) else (some true)
end
def laws_FnBalls.f (k : Nat) (l0 : List Int) (l1 : List Int) : Option (Bool) := (laws_a2Long.f l0 l1).bind fun t148 => (if t148 = true then (some true) else ((laws_a2At.f l0 0 256).bind fun t149 => ((laws_a2At.f l0 1 20).bind fun t150 => ((laws_a2At.f l0 2 40).bind fun t151 => ((laws_a2At.f l0 3 8).bind fun t152 => ((laws_a2At.f l0 4 9).bind fun t153 => ((laws_a2At.f l1 0 200).bind fun t154 => ((impl_TurnsFor.f (wrap64 ((wrap64 (20 * t149)) + t150)) (wrap64 (1 + t154))).bind fun bt155 => ((spec_TurnsFor.f (wrap64 ((wrap64 (20 * t149)) + t150)) (wrap64 (1 + t154))).bind fun bt158 => (if bt155.2.2 = bt158.2.2 then (if bt155.2.2 = 0 then (if bt155.1 = bt158.1 then (if bt155.2.1 = bt158.2.1 then (if (wrap64 ((wrap64 (bt158.1 * (wrap64 (1 + t154)))) + bt158.2.1)) = (wrap64 ((wrap64 (20 * t149)) + t150)) then (if bt158.2.1 < 0 then (laws_FnBalls.j0 k l1 (wrap64 ((wrap64 (20 * t149)) + t150)) (wrap64 (1 + t151)) t152 (wrap64 (1 + t153)) true) else (laws_FnBalls.j0 k l1 (wrap64 ((wrap64 (20 * t149)) + t150)) (wrap64 (1 + t151)) t152 (wrap64 (1 + t153)) (decide (bt158.2.1 ≥ (wrap64 (1 + t154)))))) else (laws_FnBalls.j0 k l1 (wrap64 ((wrap64 (20 * t149)) + t150)) (wrap64 (1 + t151)) t152 (wrap64 (1 + t153)) true)) else (laws_FnBalls.j0 k l1 (wrap64 ((wrap64 (20 * t149)) + t150)) (wrap64 (1 + t151)) t152 (wrap64 (1 + t153)) true)) else (laws_FnBalls.j0 k l1 (wrap64 ((wrap64 (20 * t149)) + t150)) (wrap64 (1 + t151)) t152 (wrap64 (1 + t153)) true)) else (laws_FnBalls.j0 k l1 (wrap64 ((wrap64 (20 * t149)) + t150)) (wrap64 (1 + t151)) t152 (wrap64 (1 + t153)) true)) else (laws_FnBalls.j0 k l1 (wrap64 ((wrap64 (20 * t149)) + t150)) (wrap64 (1 + t151)) t152 (wrap64 (1 + t153)) true)))))))))))
theorem laws_FnBalls.mono_l : ∀ k, (∀ y0 y1 y2 y3 y4 y5, LeO (laws_FnBalls.j0 k y0 y1 y2 y3 y4 y5) (laws_FnBalls.j0 (k + 1) y0 y1 y2 y3 y4 y5)) ∧ (∀ y0 y1 y2 y3 y4 y5 y6 y7, LeO (laws_FnBalls.j1 k y0 y1 y2 y3 y4 y5 y6 y7) (laws_FnBalls.j1 (k + 1) y0 y1 y2 y3 y4 y5 y6 y7)) ∧ (∀ y0, LeO (laws_FnBalls.j2 k y0) (laws_FnBalls.j2 (k + 1) y0)) ∧ (∀ y0 y1 y2 y3, LeO (laws_FnBalls.j3 k y0 y1 y2 y3) (laws_FnBalls.j3 (k + 1) y0 y1 y2 y3)) ∧ (∀ y0 y1 y2 y3, LeO (laws_FnBalls.l0 k y0 y1 y2 y3) (laws_FnBalls.l0 (k + 1) y0 y1 y2 y3))
  | 0 => ⟨fun _ _ _ _ _ _ r h => by simp [laws_FnBalls.j0] at h, fun _ _ _ _ _ _ _ _ r h => by simp [laws_FnBalls.j1] at h, fun _ r h => by simp [laws_FnBalls.j2] at h, fun _ _ _ _ r h => by simp [laws_FnBalls.j3] at h, fun _ _ _ _ r h => by simp [laws_FnBalls.l0] at h⟩
  | k + 1 => by
    obtain ⟨ih0, ih1, ih2, ih3, ih4⟩ := laws_FnBalls.mono_l k
    refine ⟨?_, ?_, ?_, ?_, ?_⟩
    · intro y0 y1 y2 y3 y4 y5
      unfold laws_FnBalls.j0
      repeat' first
      | (with_reducible exact ih0 _ _ _ _ _ _)
      | (with_reducible exact ih1 _ _ _ _ _ _ _ _)
      | (with_reducible exact ih2 _)
      | (with_reducible exact ih3 _ _ _ _)
      | (with_reducible exact ih4 _ _ _ _)
      | (with_reducible exact impl_BallLength.mono _ _ _ _ _)
      | (with_reducible exact impl_BallTurns.mono _ _ _ _ _)
      | (with_reducible exact impl_TiesFor.mono _ _ _)
      | (with_reducible exact spec_A2Same.mono _ _ _)
      | (with_reducible exact spec_BallTurns.mono _ _ _ _ _)
      | (with_reducible exact spec_TiesFor.mono _ _ _)
      | (with_reducible exact LeO.refl _)
      | (with_reducible exact LeO.none _)
      | (with_reducible refine LeO.ite ?_ ?_)
      | (with_reducible refine LeO.bind ?_ (fun _ => ?_))
      | exact ih0 _ _ _ _ _ _
      | exact ih1 _ _ _ _ _ _ _ _
      | exact ih2 _
      | exact ih3 _ _ _ _
      | exact ih4 _ _ _ _
      | exact impl_BallLength.mono _ _ _ _ _
      | exact impl_BallTurns.mono _ _ _ _ _
      | exact impl_TiesFor.mono _ _ _
      | exact spec_A2Same.mono _ _ _
      | exact spec_BallTurns.mono _ _ _ _ _
      | exact spec_TiesFor.mono _ _ _
      | exact LeO.none _
      | refine LeO.ite ?_ ?_
      | refine LeO.bind ?_ (fun _ => ?_)
    · intro y0 y1 y2 y3 y4 y5 y6 y7
      unfold laws_FnBalls.j1
      repeat' first
      | (with_reducible exact ih0 _ _ _ _ _ _)
      | (with_reducible exact ih1 _ _ _ _ _ _ _ _)
      | (with_reducible exact ih2 _)
      | (with_reducible exact ih3 _ _ _ _)
      | (with_reducible exact ih4 _ _ _ _)
      | (with_reducible exact impl_BallLength.mono _ _ _ _ _)
      | (with_reducible exact impl_BallTurns.mono _ _ _ _ _)
      | (with_reducible exact impl_TiesFor.mono _ _ _)
      | (with_reducible exact spec_A2Same.mono _ _ _)
      | (with_reducible exact spec_BallTurns.mono _ _ _ _ _)
      | (with_reducible exact spec_TiesFor.mono _ _ _)
      | (with_reducible exact LeO.refl _)
      | (with_reducible exact LeO.none _)
      | (with_reducible refine LeO.ite ?_ ?_)
      | (with_reducible refine LeO.bind ?_ (fun _ => ?_))
      | exact ih0 _ _ _ _ _ _
      | exact ih1 _ _ _ _ _ _ _ _
      | exact ih2 _
      | exact ih3 _ _ _ _
      | exact ih4 _ _ _ _
      | exact impl_BallLength.mono _ _ _ _ _
      | exact impl_BallTurns.mono _ _ _ _ _
      | exact impl_TiesFor.mono _ _ _
      | exact spec_A2Same.mono _ _ _
      | exact spec_BallTurns.mono _ _ _ _ _
      | exact spec_TiesFor.mono _ _ _
      | exact LeO.none _
      | refine LeO.ite ?_ ?_
      | refine LeO.bind ?_ (fun _ => ?_)
    · intro y0
      unfold laws_FnBalls.j2
      repeat' first
      | (with_reducible exact ih0 _ _ _ _ _ _)
      | (with_reducible exact ih1 _ _ _ _ _ _ _ _)
      | (with_reducible exact ih2 _)
      | (with_reducible exact ih3 _ _ _ _)
      | (with_reducible exact ih4 _ _ _ _)
      | (with_reducible exact impl_BallLength.mono _ _ _ _ _)
      | (with_reducible exact impl_BallTurns.mono _ _ _ _ _)
      | (with_reducible exact impl_TiesFor.mono _ _ _)
      | (with_reducible exact spec_A2Same.mono _ _ _)
      | (with_reducible exact spec_BallTurns.mono _ _ _ _ _)
      | (with_reducible exact spec_TiesFor.mono _ _ _)
      | (with_reducible exact LeO.refl _)
      | (with_reducible exact LeO.none _)
      | (with_reducible refine LeO.ite ?_ ?_)
      | (with_reducible refine LeO.bind ?_ (fun _ => ?_))
      | exact ih0 _ _ _ _ _ _
      | exact ih1 _ _ _ _ _ _ _ _
      | exact ih2 _
      | exact ih3 _ _ _ _
      | exact ih4 _ _ _ _
      | exact impl_BallLength.mono _ _ _ _ _
      | exact impl_BallTurns.mono _ _ _ _ _
      | exact impl_TiesFor.mono _ _ _
      | exact spec_A2Same.mono _ _ _
      | exact spec_BallTurns.mono _ _ _ _ _
      | exact spec_TiesFor.mono _ _ _
      | exact LeO.none _
      | refine LeO.ite ?_ ?_
      | refine LeO.bind ?_ (fun _ => ?_)
    · intro y0 y1 y2 y3
      unfold laws_FnBalls.j3
      repeat' first
      | (with_reducible exact ih0 _ _ _ _ _ _)
      | (with_reducible exact ih1 _ _ _ _ _ _ _ _)
      | (with_reducible exact ih2 _)
      | (with_reducible exact ih3 _ _ _ _)
      | (with_reducible exact ih4 _ _ _ _)
      | (with_reducible exact impl_BallLength.mono _ _ _ _ _)
      | (with_reducible exact impl_BallTurns.mono _ _ _ _ _)
      | (with_reducible exact impl_TiesFor.mono _ _ _)
      | (with_reducible exact spec_A2Same.mono _ _ _)
      | (with_reducible exact spec_BallTurns.mono _ _ _ _ _)
      | (with_reducible exact spec_TiesFor.mono _ _ _)
      | (with_reducible exact LeO.refl _)
      | (with_reducible exact LeO.none _)
      | (with_reducible refine LeO.ite ?_ ?_)
      | (with_reducible refine LeO.bind ?_ (fun _ => ?_))
      | exact ih0 _ _ _ _ _ _
      | exact ih1 _ _ _ _ _ _ _ _
      | exact ih2 _
      | exact ih3 _ _ _ _
      | exact ih4 _ _ _ _
      | exact impl_BallLength.mono _ _ _ _ _
      | exact impl_BallTurns.mono _ _ _ _ _
      | exact impl_TiesFor.mono _ _ _
      | exact spec_A2Same.mono _ _ _
      | exact spec_BallTurns.mono _ _ _ _ _
      | exact spec_TiesFor.mono _ _ _
      | exact LeO.none _
      | refine LeO.ite ?_ ?_
      | refine LeO.bind ?_ (fun _ => ?_)
    · intro y0 y1 y2 y3
      unfold laws_FnBalls.l0
      repeat' first
      | (with_reducible exact ih0 _ _ _ _ _ _)
      | (with_reducible exact ih1 _ _ _ _ _ _ _ _)
      | (with_reducible exact ih2 _)
      | (with_reducible exact ih3 _ _ _ _)
      | (with_reducible exact ih4 _ _ _ _)
      | (with_reducible exact impl_BallLength.mono _ _ _ _ _)
      | (with_reducible exact impl_BallTurns.mono _ _ _ _ _)
      | (with_reducible exact impl_TiesFor.mono _ _ _)
      | (with_reducible exact spec_A2Same.mono _ _ _)
      | (with_reducible exact spec_BallTurns.mono _ _ _ _ _)
      | (with_reducible exact spec_TiesFor.mono _ _ _)
      | (with_reducible exact LeO.refl _)
      | (with_reducible exact LeO.none _)
      | (with_reducible refine LeO.ite ?_ ?_)
      | (with_reducible refine LeO.bind ?_ (fun _ => ?_))
      | exact ih0 _ _ _ _ _ _
      | exact ih1 _ _ _ _ _ _ _ _
      | exact ih2 _
      | exact ih3 _ _ _ _
      | exact ih4 _ _ _ _
      | exact impl_BallLength.mono _ _ _ _ _
      | exact impl_BallTurns.mono _ _ _ _ _
      | exact impl_TiesFor.mono _ _ _
      | exact spec_A2Same.mono _ _ _
      | exact spec_BallTurns.mono _ _ _ _ _
      | exact spec_TiesFor.mono _ _ _
      | exact LeO.none _
      | refine LeO.ite ?_ ?_
      | refine LeO.bind ?_ (fun _ => ?_)
theorem laws_FnBalls.mono : ∀ a0 a1 k, LeO (laws_FnBalls.f k a0 a1) (laws_FnBalls.f (k + 1) a0 a1) := by
  intro a0 a1 k
  obtain ⟨ih0, ih1, ih2, ih3, ih4⟩ := laws_FnBalls.mono_l k
  unfold laws_FnBalls.f
  repeat' first
      | (with_reducible exact ih0 _ _ _ _ _ _)
      | (with_reducible exact ih1 _ _ _ _ _ _ _ _)
      | (with_reducible exact ih2 _)
      | (with_reducible exact ih3 _ _ _ _)
      | (with_reducible exact ih4 _ _ _ _)
      | (with_reducible exact impl_BallLength.mono _ _ _ _ _)
      | (with_reducible exact impl_BallTurns.mono _ _ _ _ _)
      | (with_reducible exact impl_TiesFor.mono _ _ _)
      | (with_reducible exact spec_A2Same.mono _ _ _)
      | (with_reducible exact spec_BallTurns.mono _ _ _ _ _)
      | (with_reducible exact spec_TiesFor.mono _ _ _)
      | (with_reducible exact LeO.refl _)
      | (with_reducible exact LeO.none _)
      | (with_reducible refine LeO.ite ?_ ?_)
      | (with_reducible refine LeO.bind ?_ (fun _ => ?_))
      | exact ih0 _ _ _ _ _ _
      | exact ih1 _ _ _ _ _ _ _ _
      | exact ih2 _
      | exact ih3 _ _ _ _
      | exact ih4 _ _ _ _
      | exact impl_BallLength.mono _ _ _ _ _
      | exact impl_BallTurns.mono _ _ _ _ _
      | exact impl_TiesFor.mono _ _ _
      | exact spec_A2Same.mono _ _ _
      | exact spec_BallTurns.mono _ _ _ _ _
      | exact spec_TiesFor.mono _ _ _
      | exact LeO.none _
      | refine LeO.ite ?_ ?_
      | refine LeO.bind ?_ (fun _ => ?_)
set_option maxHeartbeats 8000000 in
set_option maxRecDepth 100000 in
theorem laws_FnBalls.calls (k : Nat) (A0 : Option Addr) (c0 : Nat) (l0 : List Int) (A1 : Option Addr) (c1 : Nat) (l1 : List Int) (r : Bool) (w : World) (hr0 : Kd.C (Kd.int .u8) w A0 l0.length l0) (hc0 : l0.length ≤ c0) (hr1 : Kd.C (Kd.int .u8) w A1 l1.length l1) (hc1 : l1.length ≤ c1) (h : laws_FnBalls.f k l0 l1 = some r) :
    Calls Try.prog 13 #[.slice A0 l0.length c0, .slice A1 l1.length c1] w fun e w' => e = .returned (.bool r) ∧ Below w.heap.size w w' := by
  have HR0 := Aside0.mk hr0
  have HC0 := Aside0.mk hc0
  clear hr0 hc0
  have HR1 := Aside0.mk hr1
  have HC1 := Aside0.mk hc1
  clear hr1 hc1
  have HB := Aside0.mk (Below.refl w.heap.size w)
  have H : ((laws_a2Long.f l0 l1).bind fun t148 => (if t148 = true then (some true) else ((laws_a2At.f l0 0 256).bind fun t149 => ((laws_a2At.f l0 1 20).bind fun t150 => ((laws_a2At.f l0 2 40).bind fun t151 => ((laws_a2At.f l0 3 8).bind fun t152 => ((laws_a2At.f l0 4 9).bind fun t153 => ((laws_a2At.f l1 0 200).bind fun t154 => ((impl_TurnsFor.f (wrap64 ((wrap64 (20 * t149)) + t150)) (wrap64 (1 + t154))).bind fun bt155 => ((spec_TurnsFor.f (wrap64 ((wrap64 (20 * t149)) + t150)) (wrap64 (1 + t154))).bind fun bt158 => (if bt155.2.2 = bt158.2.2 then (if bt155.2.2 = 0 then (if bt155.1 = bt158.1 then (if bt155.2.1 = bt158.2.1 then (if (wrap64 ((wrap64 (bt158.1 * (wrap64 (1 + t154)))) + bt158.2.1)) = (wrap64 ((wrap64 (20 * t149)) + t150)) then (if bt158.2.1 < 0 then (laws_FnBalls.j0 k l1 (wrap64 ((wrap64 (20 * t149)) + t150)) (wrap64 (1 + t151)) t152 (wrap64 (1 + t153)) true) else (laws_FnBalls.j0 k l1 (wrap64 ((wrap64 (20 * t149)) + t150)) (wrap64 (1 + t151)) t152 (wrap64 (1 + t153)) (decide (bt158.2.1 ≥ (wrap64 (1 + t154)))))) else (laws_FnBalls.j0 k l1 (wrap64 ((wrap64 (20 * t149)) + t150)) (wrap64 (1 + t151)) t152 (wrap64 (1 + t153)) true)) else (laws_FnBalls.j0 k l1 (wrap64 ((wrap64 (20 * t149)) + t150)) (wrap64 (1 + t151)) t152 (wrap64 (1 + t153)) true)) else (laws_FnBalls.j0 k l1 (wrap64 ((wrap64 (20 * t149)) + t150)) (wrap64 (1 + t151)) t152 (wrap64 (1 + t153)) true)) else (laws_FnBalls.j0 k l1 (wrap64 ((wrap64 (20 * t149)) + t150)) (wrap64 (1 + t151)) t152 (wrap64 (1 + t153)) true)) else (laws_FnBalls.j0 k l1 (wrap64 ((wrap64 (20 * t149)) + t150)) (wrap64 (1 + t151)) t152 (wrap64 (1 + t153)) true)))))))))))) = some r := h
  clear h
  replace H := Option.bind_eq_some_iff.mp H
  obtain ⟨t148, A30, H⟩ := H
  replace H : (if t148 = true then (some true) else ((laws_a2At.f l0 0 256).bind fun t149 => ((laws_a2At.f l0 1 20).bind fun t150 => ((laws_a2At.f l0 2 40).bind fun t151 => ((laws_a2At.f l0 3 8).bind fun t152 => ((laws_a2At.f l0 4 9).bind fun t153 => ((laws_a2At.f l1 0 200).bind fun t154 => ((impl_TurnsFor.f (wrap64 ((wrap64 (20 * t149)) + t150)) (wrap64 (1 + t154))).bind fun bt155 => ((spec_TurnsFor.f (wrap64 ((wrap64 (20 * t149)) + t150)) (wrap64 (1 + t154))).bind fun bt158 => (if bt155.2.2 = bt158.2.2 then (if bt155.2.2 = 0 then (if bt155.1 = bt158.1 then (if bt155.2.1 = bt158.2.1 then (if (wrap64 ((wrap64 (bt158.1 * (wrap64 (1 + t154)))) + bt158.2.1)) = (wrap64 ((wrap64 (20 * t149)) + t150)) then (if bt158.2.1 < 0 then (laws_FnBalls.j0 k l1 (wrap64 ((wrap64 (20 * t149)) + t150)) (wrap64 (1 + t151)) t152 (wrap64 (1 + t153)) true) else (laws_FnBalls.j0 k l1 (wrap64 ((wrap64 (20 * t149)) + t150)) (wrap64 (1 + t151)) t152 (wrap64 (1 + t153)) (decide (bt158.2.1 ≥ (wrap64 (1 + t154)))))) else (laws_FnBalls.j0 k l1 (wrap64 ((wrap64 (20 * t149)) + t150)) (wrap64 (1 + t151)) t152 (wrap64 (1 + t153)) true)) else (laws_FnBalls.j0 k l1 (wrap64 ((wrap64 (20 * t149)) + t150)) (wrap64 (1 + t151)) t152 (wrap64 (1 + t153)) true)) else (laws_FnBalls.j0 k l1 (wrap64 ((wrap64 (20 * t149)) + t150)) (wrap64 (1 + t151)) t152 (wrap64 (1 + t153)) true)) else (laws_FnBalls.j0 k l1 (wrap64 ((wrap64 (20 * t149)) + t150)) (wrap64 (1 + t151)) t152 (wrap64 (1 + t153)) true)) else (laws_FnBalls.j0 k l1 (wrap64 ((wrap64 (20 * t149)) + t150)) (wrap64 (1 + t151)) t152 (wrap64 (1 + t153)) true))))))))))) = some r := H
  have A3 := Aside0.mk A30
  clear A30
  by_cases c4 : t148 = true
  · subst c4
    have H1 : (some true) = some r := by rw [if_pos rfl] at H; exact H
    clear H
    have H := H1
    clear H1
    obtain rfl := Option.some.inj H
    go_enter Try.func13, Try.ntmps13
    go_wp2_with (first | ((with_reducible refine gate_callee (f := 34) rfl ?_); refine goesL_ (some 35) rfl rfl Try.func34 (by kernel_rfl) rfl #[.slice A0 l0.length c0, .slice A1 l1.length c1] rfl (by (try simp only [List.map_toArray, List.map_cons, List.map_nil]); first | done | rfl | (simp only [List.length_drop, List.length_take]; rfl)) ?_; (with_reducible refine (laws_a2Long.calls _ _ l0 _ _ l1 true _ ?side1 ?side2 ?side3 ?side4 A3.out).mono ?_); (case side1 => repeat (first | exact HR0.out | (with_reducible refine Kd.C_alloc ?_ _) | (with_reducible refine Kd.C_drewN ?_ _) | (with_reducible refine Kd.C_drew ?_))); (case side2 => exact HC0.out); (case side3 => repeat (first | exact HR1.out | (with_reducible refine Kd.C_alloc ?_ _) | (with_reducible refine Kd.C_drewN ?_ _) | (with_reducible refine Kd.C_drew ?_))); (case side4 => exact HC1.out); rintro e w' ⟨rfl, ⟨nd, rfl⟩⟩; refine ⟨_, rfl, ?_⟩))
    go_ret
    exact ⟨by first | rfl | (simp [errW_none, errW_some] <;> rfl) | (simp [*, errW_none, errW_some] <;> rfl), by repeat (first | (with_reducible first | exact HB.out | apply below_alloc | apply pw_below_drewN | apply below_drew1) | exact HB.out)⟩
  · replace c4 := Bool.eq_false_iff.mpr c4
    subst c4
    have H1 : ((laws_a2At.f l0 0 256).bind fun t149 => ((laws_a2At.f l0 1 20).bind fun t150 => ((laws_a2At.f l0 2 40).bind fun t151 => ((laws_a2At.f l0 3 8).bind fun t152 => ((laws_a2At.f l0 4 9).bind fun t153 => ((laws_a2At.f l1 0 200).bind fun t154 => ((impl_TurnsFor.f (wrap64 ((wrap64 (20 * t149)) + t150)) (wrap64 (1 + t154))).bind fun bt155 => ((spec_TurnsFor.f (wrap64 ((wrap64 (20 * t149)) + t150)) (wrap64 (1 + t154))).bind fun bt158 => (if bt155.2.2 = bt158.2.2 then (if bt155.2.2 = 0 then (if bt155.1 = bt158.1 then (if bt155.2.1 = bt158.2.1 then (if (wrap64 ((wrap64 (bt158.1 * (wrap64 (1 + t154)))) + bt158.2.1)) = (wrap64 ((wrap64 (20 * t149)) + t150)) then (if bt158.2.1 < 0 then (laws_FnBalls.j0 k l1 (wrap64 ((wrap64 (20 * t149)) + t150)) (wrap64 (1 + t151)) t152 (wrap64 (1 + t153)) true) else (laws_FnBalls.j0 k l1 (wrap64 ((wrap64 (20 * t149)) + t150)) (wrap64 (1 + t151)) t152 (wrap64 (1 + t153)) (decide (bt158.2.1 ≥ (wrap64 (1 + t154)))))) else (laws_FnBalls.j0 k l1 (wrap64 ((wrap64 (20 * t149)) + t150)) (wrap64 (1 + t151)) t152 (wrap64 (1 + t153)) true)) else (laws_FnBalls.j0 k l1 (wrap64 ((wrap64 (20 * t149)) + t150)) (wrap64 (1 + t151)) t152 (wrap64 (1 + t153)) true)) else (laws_FnBalls.j0 k l1 (wrap64 ((wrap64 (20 * t149)) + t150)) (wrap64 (1 + t151)) t152 (wrap64 (1 + t153)) true)) else (laws_FnBalls.j0 k l1 (wrap64 ((wrap64 (20 * t149)) + t150)) (wrap64 (1 + t151)) t152 (wrap64 (1 + t153)) true)) else (laws_FnBalls.j0 k l1 (wrap64 ((wrap64 (20 * t149)) + t150)) (wrap64 (1 + t151)) t152 (wrap64 (1 + t153)) true)))))))))) = some r := by rw [if_neg (show ¬ (false = true) by decide)] at H; exact H
    clear H
    have H := H1
    clear H1
    replace H := Option.bind_eq_some_iff.mp H
    obtain ⟨t149, A50, H⟩ := H
    replace H : ((laws_a2At.f l0 1 20).bind fun t150 => ((laws_a2At.f l0 2 40).bind fun t151 => ((laws_a2At.f l0 3 8).bind fun t152 => ((laws_a2At.f l0 4 9).bind fun t153 => ((laws_a2At.f l1 0 200).bind fun t154 => ((impl_TurnsFor.f (wrap64 ((wrap64 (20 * t149)) + t150)) (wrap64 (1 + t154))).bind fun bt155 => ((spec_TurnsFor.f (wrap64 ((wrap64 (20 * t149)) + t150)) (wrap64 (1 + t154))).bind fun bt158 => (if bt155.2.2 = bt158.2.2 then (if bt155.2.2 = 0 then (if bt155.1 = bt158.1 then (if bt155.2.1 = bt158.2.1 then (if (wrap64 ((wrap64 (bt158.1 * (wrap64 (1 + t154)))) + bt158.2.1)) = (wrap64 ((wrap64 (20 * t149)) + t150)) then (if bt158.2.1 < 0 then (laws_FnBalls.j0 k l1 (wrap64 ((wrap64 (20 * t149)) + t150)) (wrap64 (1 + t151)) t152 (wrap64 (1 + t153)) true) else (laws_FnBalls.j0 k l1 (wrap64 ((wrap64 (20 * t149)) + t150)) (wrap64 (1 + t151)) t152 (wrap64 (1 + t153)) (decide (bt158.2.1 ≥ (wrap64 (1 + t154)))))) else (laws_FnBalls.j0 k l1 (wrap64 ((wrap64 (20 * t149)) + t150)) (wrap64 (1 + t151)) t152 (wrap64 (1 + t153)) true)) else (laws_FnBalls.j0 k l1 (wrap64 ((wrap64 (20 * t149)) + t150)) (wrap64 (1 + t151)) t152 (wrap64 (1 + t153)) true)) else (laws_FnBalls.j0 k l1 (wrap64 ((wrap64 (20 * t149)) + t150)) (wrap64 (1 + t151)) t152 (wrap64 (1 + t153)) true)) else (laws_FnBalls.j0 k l1 (wrap64 ((wrap64 (20 * t149)) + t150)) (wrap64 (1 + t151)) t152 (wrap64 (1 + t153)) true)) else (laws_FnBalls.j0 k l1 (wrap64 ((wrap64 (20 * t149)) + t150)) (wrap64 (1 + t151)) t152 (wrap64 (1 + t153)) true))))))))) = some r := H
    have A5 := Aside0.mk A50
    clear A50
    replace H := Option.bind_eq_some_iff.mp H
    obtain ⟨t150, A60, H⟩ := H
    replace H : ((laws_a2At.f l0 2 40).bind fun t151 => ((laws_a2At.f l0 3 8).bind fun t152 => ((laws_a2At.f l0 4 9).bind fun t153 => ((laws_a2At.f l1 0 200).bind fun t154 => ((impl_TurnsFor.f (wrap64 ((wrap64 (20 * t149)) + t150)) (wrap64 (1 + t154))).bind fun bt155 => ((spec_TurnsFor.f (wrap64 ((wrap64 (20 * t149)) + t150)) (wrap64 (1 + t154))).bind fun bt158 => (if bt155.2.2 = bt158.2.2 then (if bt155.2.2 = 0 then (if bt155.1 = bt158.1 then (if bt155.2.1 = bt158.2.1 then (if (wrap64 ((wrap64 (bt158.1 * (wrap64 (1 + t154)))) + bt158.2.1)) = (wrap64 ((wrap64 (20 * t149)) + t150)) then (if bt158.2.1 < 0 then (laws_FnBalls.j0 k l1 (wrap64 ((wrap64 (20 * t149)) + t150)) (wrap64 (1 + t151)) t152 (wrap64 (1 + t153)) true) else (laws_FnBalls.j0 k l1 (wrap64 ((wrap64 (20 * t149)) + t150)) (wrap64 (1 + t151)) t152 (wrap64 (1 + t153)) (decide (bt158.2.1 ≥ (wrap64 (1 + t154)))))) else (laws_FnBalls.j0 k l1 (wrap64 ((wrap64 (20 * t149)) + t150)) (wrap64 (1 + t151)) t152 (wrap64 (1 + t153)) true)) else (laws_FnBalls.j0 k l1 (wrap64 ((wrap64 (20 * t149)) + t150)) (wrap64 (1 + t151)) t152 (wrap64 (1 + t153)) true)) else (laws_FnBalls.j0 k l1 (wrap64 ((wrap64 (20 * t149)) + t150)) (wrap64 (1 + t151)) t152 (wrap64 (1 + t153)) true)) else (laws_FnBalls.j0 k l1 (wrap64 ((wrap64 (20 * t149)) + t150)) (wrap64 (1 + t151)) t152 (wrap64 (1 + t153)) true)) else (laws_FnBalls.j0 k l1 (wrap64 ((wrap64 (20 * t149)) + t150)) (wrap64 (1 + t151)) t152 (wrap64 (1 + t153)) true)))))))) = some r := H
    have A6 := Aside0.mk A60
    clear A60
    replace H := Option.bind_eq_some_iff.mp H
    obtain ⟨t151, A70, H⟩ := H
    replace H : ((laws_a2At.f l0 3 8).bind fun t152 => ((laws_a2At.f l0 4 9).bind fun t153 => ((laws_a2At.f l1 0 200).bind fun t154 => ((impl_TurnsFor.f (wrap64 ((wrap64 (20 * t149)) + t150)) (wrap64 (1 + t154))).bind fun bt155 => ((spec_TurnsFor.f (wrap64 ((wrap64 (20 * t149)) + t150)) (wrap64 (1 + t154))).bind fun bt158 => (if bt155.2.2 = bt158.2.2 then (if bt155.2.2 = 0 then (if bt155.1 = bt158.1 then (if bt155.2.1 = bt158.2.1 then (if (wrap64 ((wrap64 (bt158.1 * (wrap64 (1 + t154)))) + bt158.2.1)) = (wrap64 ((wrap64 (20 * t149)) + t150)) then (if bt158.2.1 < 0 then (laws_FnBalls.j0 k l1 (wrap64 ((wrap64 (20 * t149)) + t150)) (wrap64 (1 + t151)) t152 (wrap64 (1 + t153)) true) else (laws_FnBalls.j0 k l1 (wrap64 ((wrap64 (20 * t149)) + t150)) (wrap64 (1 + t151)) t152 (wrap64 (1 + t153)) (decide (bt158.2.1 ≥ (wrap64 (1 + t154)))))) else (laws_FnBalls.j0 k l1 (wrap64 ((wrap64 (20 * t149)) + t150)) (wrap64 (1 + t151)) t152 (wrap64 (1 + t153)) true)) else (laws_FnBalls.j0 k l1 (wrap64 ((wrap64 (20 * t149)) + t150)) (wrap64 (1 + t151)) t152 (wrap64 (1 + t153)) true)) else (laws_FnBalls.j0 k l1 (wrap64 ((wrap64 (20 * t149)) + t150)) (wrap64 (1 + t151)) t152 (wrap64 (1 + t153)) true)) else (laws_FnBalls.j0 k l1 (wrap64 ((wrap64 (20 * t149)) + t150)) (wrap64 (1 + t151)) t152 (wrap64 (1 + t153)) true)) else (laws_FnBalls.j0 k l1 (wrap64 ((wrap64 (20 * t149)) + t150)) (wrap64 (1 + t151)) t152 (wrap64 (1 + t153)) true))))))) = some r := H
    have A7 := Aside0.mk A70
    clear A70
    replace H := Option.bind_eq_some_iff.mp H
    obtain ⟨t152, A80, H⟩ := H
    replace H : ((laws_a2At.f l0 4 9).bind fun t153 => ((laws_a2At.f l1 0 200).bind fun t154 => ((impl_TurnsFor.f (wrap64 ((wrap64 (20 * t149)) + t150)) (wrap64 (1 + t154))).bind fun bt155 => ((spec_TurnsFor.f (wrap64 ((wrap64 (20 * t149)) + t150)) (wrap64 (1 + t154))).bind fun bt158 => (if bt155.2.2 = bt158.2.2 then (if bt155.2.2 = 0 then (if bt155.1 = bt158.1 then (if bt155.2.1 = bt158.2.1 then (if (wrap64 ((wrap64 (bt158.1 * (wrap64 (1 + t154)))) + bt158.2.1)) = (wrap64 ((wrap64 (20 * t149)) + t150)) then (if bt158.2.1 < 0 then (laws_FnBalls.j0 k l1 (wrap64 ((wrap64 (20 * t149)) + t150)) (wrap64 (1 + t151)) t152 (wrap64 (1 + t153)) true) else (laws_FnBalls.j0 k l1 (wrap64 ((wrap64 (20 * t149)) + t150)) (wrap64 (1 + t151)) t152 (wrap64 (1 + t153)) (decide (bt158.2.1 ≥ (wrap64 (1 + t154)))))) else (laws_FnBalls.j0 k l1 (wrap64 ((wrap64 (20 * t149)) + t150)) (wrap64 (1 + t151)) t152 (wrap64 (1 + t153)) true)) else (laws_FnBalls.j0 k l1 (wrap64 ((wrap64 (20 * t149)) + t150)) (wrap64 (1 + t151)) t152 (wrap64 (1 + t153)) true)) else (laws_FnBalls.j0 k l1 (wrap64 ((wrap64 (20 * t149)) + t150)) (wrap64 (1 + t151)) t152 (wrap64 (1 + t153)) true)) else (laws_FnBalls.j0 k l1 (wrap64 ((wrap64 (20 * t149)) + t150)) (wrap64 (1 + t151)) t152 (wrap64 (1 + t153)) true)) else (laws_FnBalls.j0 k l1 (wrap64 ((wrap64 (20 * t149)) + t150)) (wrap64 (1 + t151)) t152 (wrap64 (1 + t153)) true)))))) = some r := H
    have A8 := Aside0.mk A80
    clear A80
    replace H := Option.bind_eq_some_iff.mp H
    obtain ⟨t153, A90, H⟩ := H
    replace H : ((laws_a2At.f l1 0 200).bind fun t154 => ((impl_TurnsFor.f (wrap64 ((wrap64 (20 * t149)) + t150)) (wrap64 (1 + t154))).bind fun bt155 => ((spec_TurnsFor.f (wrap64 ((wrap64 (20 * t149)) + t150)) (wrap64 (1 + t154))).bind fun bt158 => (if bt155.2.2 = bt158.2.2 then (if bt155.2.2 = 0 then (if bt155.1 = bt158.1 then (if bt155.2.1 = bt158.2.1 then (if (wrap64 ((wrap64 (bt158.1 * (wrap64 (1 + t154)))) + bt158.2.1)) = (wrap64 ((wrap64 (20 * t149)) + t150)) then (if bt158.2.1 < 0 then (laws_FnBalls.j0 k l1 (wrap64 ((wrap64 (20 * t149)) + t150)) (wrap64 (1 + t151)) t152 (wrap64 (1 + t153)) true) else (laws_FnBalls.j0 k l1 (wrap64 ((wrap64 (20 * t149)) + t150)) (wrap64 (1 + t151)) t152 (wrap64 (1 + t153)) (decide (bt158.2.1 ≥ (wrap64 (1 + t154)))))) else (laws_FnBalls.j0 k l1 (wrap64 ((wrap64 (20 * t149)) + t150)) (wrap64 (1 + t151)) t152 (wrap64 (1 + t153)) true)) else (laws_FnBalls.j0 k l1 (wrap64 ((wrap64 (20 * t149)) + t150)) (wrap64 (1 + t151)) t152 (wrap64 (1 + t153)) true)) else (laws_FnBalls.j0 k l1 (wrap64 ((wrap64 (20 * t149)) + t150)) (wrap64 (1 + t151)) t152 (wrap64 (1 + t153)) true)) else (laws_FnBalls.j0 k l1 (wrap64 ((wrap64 (20 * t149)) + t150)) (wrap64 (1 + t151)) t152 (wrap64 (1 + t153)) true)) else (laws_FnBalls.j0 k l1 (wrap64 ((wrap64 (20 * t149)) + t150)) (wrap64 (1 + t151)) t152 (wrap64 (1 + t153)) true))))) = some r := H
    have A9 := Aside0.mk A90
    clear A90
    replace H := Option.bind_eq_some_iff.mp H
    obtain ⟨t154, A100, H⟩ := H
    replace H : ((impl_TurnsFor.f (wrap64 ((wrap64 (20 * t149)) + t150)) (wrap64 (1 + t154))).bind fun bt155 => ((spec_TurnsFor.f (wrap64 ((wrap64 (20 * t149)) + t150)) (wrap64 (1 + t154))).bind fun bt158 => (if bt155.2.2 = bt158.2.2 then (if bt155.2.2 = 0 then (if bt155.1 = bt158.1 then (if bt155.2.1 = bt158.2.1 then (if (wrap64 ((wrap64 (bt158.1 * (wrap64 (1 + t154)))) + bt158.2.1)) = (wrap64 ((wrap64 (20 * t149)) + t150)) then (if bt158.2.1 < 0 then (laws_FnBalls.j0 k l1 (wrap64 ((wrap64 (20 * t149)) + t150)) (wrap64 (1 + t151)) t152 (wrap64 (1 + t153)) true) else (laws_FnBalls.j0 k l1 (wrap64 ((wrap64 (20 * t149)) + t150)) (wrap64 (1 + t151)) t152 (wrap64 (1 + t153)) (decide (bt158.2.1 ≥ (wrap64 (1 + t154)))))) else (laws_FnBalls.j0 k l1 (wrap64 ((wrap64 (20 * t149)) + t150)) (wrap64 (1 + t151)) t152 (wrap64 (1 + t153)) true)) else (laws_FnBalls.j0 k l1 (wrap64 ((wrap64 (20 * t149)) + t150)) (wrap64 (1 + t151)) t152 (wrap64 (1 + t153)) true)) else (laws_FnBalls.j0 k l1 (wrap64 ((wrap64 (20 * t149)) + t150)) (wrap64 (1 + t151)) t152 (wrap64 (1 + t153)) true)) else (laws_FnBalls.j0 k l1 (wrap64 ((wrap64 (20 * t149)) + t150)) (wrap64 (1 + t151)) t152 (wrap64 (1 + t153)) true)) else (laws_FnBalls.j0 k l1 (wrap64 ((wrap64 (20 * t149)) + t150)) (wrap64 (1 + t151)) t152 (wrap64 (1 + t153)) true)))) = some r := H
    have A10 := Aside0.mk A100
    clear A100
    replace H := Option.bind_eq_some_iff.mp H
    obtain ⟨⟨t155, t156, t157⟩, A110, H⟩ := H
    replace H : ((spec_TurnsFor.f (wrap64 ((wrap64 (20 * t149)) + t150)) (wrap64 (1 + t154))).bind fun bt158 => (if t157 = bt158.2.2 then (if t157 = 0 then (if t155 = bt158.1 then (if t156 = bt158.2.1 then (if (wrap64 ((wrap64 (bt158.1 * (wrap64 (1 + t154)))) + bt158.2.1)) = (wrap64 ((wrap64 (20 * t149)) + t150)) then (if bt158.2.1 < 0 then (laws_FnBalls.j0 k l1 (wrap64 ((wrap64 (20 * t149)) + t150)) (wrap64 (1 + t151)) t152 (wrap64 (1 + t153)) true) else (laws_FnBalls.j0 k l1 (wrap64 ((wrap64 (20 * t149)) + t150)) (wrap64 (1 + t151)) t152 (wrap64 (1 + t153)) (decide (bt158.2.1 ≥ (wrap64 (1 + t154)))))) else (laws_FnBalls.j0 k l1 (wrap64 ((wrap64 (20 * t149)) + t150)) (wrap64 (1 + t151)) t152 (wrap64 (1 + t153)) true)) else (laws_FnBalls.j0 k l1 (wrap64 ((wrap64 (20 * t149)) + t150)) (wrap64 (1 + t151)) t152 (wrap64 (1 + t153)) true)) else (laws_FnBalls.j0 k l1 (wrap64 ((wrap64 (20 * t149)) + t150)) (wrap64 (1 + t151)) t152 (wrap64 (1 + t153)) true)) else (laws_FnBalls.j0 k l1 (wrap64 ((wrap64 (20 * t149)) + t150)) (wrap64 (1 + t151)) t152 (wrap64 (1 + t153)) true)) else (laws_FnBalls.j0 k l1 (wrap64 ((wrap64 (20 * t149)) + t150)) (wrap64 (1 + t151)) t152 (wrap64 (1 + t153)) true))) = some r := H
    have A11 := Aside0.mk A110
    clear A110
    replace H := Option.bind_eq_some_iff.mp H
    obtain ⟨⟨t158, t159, t160⟩, A120, H⟩ := H
    replace H : (if t157 = t160 then (if t157 = 0 then (if t155 = t158 then (if t156 = t159 then (if (wrap64 ((wrap64 (t158 * (wrap64 (1 + t154)))) + t159)) = (wrap64 ((wrap64 (20 * t149)) + t150)) then (if t159 < 0 then (laws_FnBalls.j0 k l1 (wrap64 ((wrap64 (20 * t149)) + t150)) (wrap64 (1 + t151)) t152 (wrap64 (1 + t153)) true) else (laws_FnBalls.j0 k l1 (wrap64 ((wrap64 (20 * t149)) + t150)) (wrap64 (1 + t151)) t152 (wrap64 (1 + t153)) (decide (t159 ≥ (wrap64 (1 + t154)))))) else (laws_FnBalls.j0 k l1 (wrap64 ((wrap64 (20 * t149)) + t150)) (wrap64 (1 + t151)) t152 (wrap64 (1 + t153)) true)) else (laws_FnBalls.j0 k l1 (wrap64 ((wrap64 (20 * t149)) + t150)) (wrap64 (1 + t151)) t152 (wrap64 (1 + t153)) true)) else (laws_FnBalls.j0 k l1 (wrap64 ((wrap64 (20 * t149)) + t150)) (wrap64 (1 + t151)) t152 (wrap64 (1 + t153)) true)) else (laws_FnBalls.j0 k l1 (wrap64 ((wrap64 (20 * t149)) + t150)) (wrap64 (1 + t151)) t152 (wrap64 (1 + t153)) true)) else (laws_FnBalls.j0 k l1 (wrap64 ((wrap64 (20 * t149)) + t150)) (wrap64 (1 + t151)) t152 (wrap64 (1 + t153)) true)) = some r := H
    have A12 := Aside0.mk A120
    clear A120
    have HC13 := Aside0.mk H
    clear H
    go_enter Try.func13, Try.ntmps13
    go_upto_region 10 with (first | ((with_reducible refine gate_callee (f := 34) rfl ?_); refine goesL_ (some 35) rfl rfl Try.func34 (by kernel_rfl) rfl #[.slice A0 l0.length c0, .slice A1 l1.length c1] rfl (by (try simp only [List.map_toArray, List.map_cons, List.map_nil]); first | done | rfl | (simp only [List.length_drop, List.length_take]; rfl)) ?_; (with_reducible refine (laws_a2Long.calls _ _ l0 _ _ l1 false _ ?side1 ?side2 ?side3 ?side4 A3.out).mono ?_); (case side1 => repeat (first | exact HR0.out | (with_reducible refine Kd.C_alloc ?_ _) | (with_reducible refine Kd.C_drewN ?_ _) | (with_reducible refine Kd.C_drew ?_))); (case side2 => exact HC0.out); (case side3 => repeat (first | exact HR1.out | (with_reducible refine Kd.C_alloc ?_ _) | (with_reducible refine Kd.C_drewN ?_ _) | (with_reducible refine Kd.C_drew ?_))); (case side4 => exact HC1.out); rintro e w' ⟨rfl, ⟨nd, rfl⟩⟩; refine ⟨_, rfl, ?_⟩) | ((with_reducible refine gate_callee (f := 35) rfl ?_); refine goesL_ (some 37) rfl rfl Try.func35 (by kernel_rfl) rfl #[.slice A0 l0.length c0, .int .i64 0, .int .i64 256] rfl (by (try simp only [List.map_toArray, List.map_cons, List.map_nil]); first | done | rfl | (simp only [List.length_drop, List.length_take]; rfl)) ?_; (with_reducible refine (laws_a2At.calls _ _ l0 0 256 t149 _ ?side1 ?side2 A5.out).mono ?_); (case side1 => repeat (first | exact HR0.out | (with_reducible refine Kd.C_alloc ?_ _) | (with_reducible refine Kd.C_drewN ?_ _) | (with_reducible refine Kd.C_drew ?_))); (case side2 => exact HC0.out); rintro e w' ⟨rfl, ⟨nd, rfl⟩⟩; refine ⟨_, rfl, ?_⟩) | ((with_reducible refine gate_callee (f := 35) rfl ?_); refine goesL_ (some 40) rfl rfl Try.func35 (by kernel_rfl) rfl #[.slice A0 l0.length c0, .int .i64 1, .int .i64 20] rfl (by (try simp only [List.map_toArray, List.map_cons, List.map_nil]); first | done | rfl | (simp only [List.length_drop, List.length_take]; rfl)) ?_; (with_reducible refine (laws_a2At.calls _ _ l0 1 20 t150 _ ?side1 ?side2 A6.out).mono ?_); (case side1 => repeat (first | exact HR0.out | (with_reducible refine Kd.C_alloc ?_ _) | (with_reducible refine Kd.C_drewN ?_ _) | (with_reducible refine Kd.C_drew ?_))); (case side2 => exact HC0.out); rintro e w' ⟨rfl, ⟨nd, rfl⟩⟩; refine ⟨_, rfl, ?_⟩) | ((with_reducible refine gate_callee (f := 35) rfl ?_); refine goesL_ (some 43) rfl rfl Try.func35 (by kernel_rfl) rfl #[.slice A0 l0.length c0, .int .i64 2, .int .i64 40] rfl (by (try simp only [List.map_toArray, List.map_cons, List.map_nil]); first | done | rfl | (simp only [List.length_drop, List.length_take]; rfl)) ?_; (with_reducible refine (laws_a2At.calls _ _ l0 2 40 t151 _ ?side1 ?side2 A7.out).mono ?_); (case side1 => repeat (first | exact HR0.out | (with_reducible refine Kd.C_alloc ?_ _) | (with_reducible refine Kd.C_drewN ?_ _) | (with_reducible refine Kd.C_drew ?_))); (case side2 => exact HC0.out); rintro e w' ⟨rfl, ⟨nd, rfl⟩⟩; refine ⟨_, rfl, ?_⟩) | ((with_reducible refine gate_callee (f := 35) rfl ?_); refine goesL_ (some 46) rfl rfl Try.func35 (by kernel_rfl) rfl #[.slice A0 l0.length c0, .int .i64 3, .int .i64 8] rfl (by (try simp only [List.map_toArray, List.map_cons, List.map_nil]); first | done | rfl | (simp only [List.length_drop, List.length_take]; rfl)) ?_; (with_reducible refine (laws_a2At.calls _ _ l0 3 8 t152 _ ?side1 ?side2 A8.out).mono ?_); (case side1 => repeat (first | exact HR0.out | (with_reducible refine Kd.C_alloc ?_ _) | (with_reducible refine Kd.C_drewN ?_ _) | (with_reducible refine Kd.C_drew ?_))); (case side2 => exact HC0.out); rintro e w' ⟨rfl, ⟨nd, rfl⟩⟩; refine ⟨_, rfl, ?_⟩) | ((with_reducible refine gate_callee (f := 35) rfl ?_); refine goesL_ (some 48) rfl rfl Try.func35 (by kernel_rfl) rfl #[.slice A0 l0.length c0, .int .i64 4, .int .i64 9] rfl (by (try simp only [List.map_toArray, List.map_cons, List.map_nil]); first | done | rfl | (simp only [List.length_drop, List.length_take]; rfl)) ?_; (with_reducible refine (laws_a2At.calls _ _ l0 4 9 t153 _ ?side1 ?side2 A9.out).mono ?_); (case side1 => repeat (first | exact HR0.out | (with_reducible refine Kd.C_alloc ?_ _) | (with_reducible refine Kd.C_drewN ?_ _) | (with_reducible refine Kd.C_drew ?_))); (case side2 => exact HC0.out); rintro e w' ⟨rfl, ⟨nd, rfl⟩⟩; refine ⟨_, rfl, ?_⟩) | ((with_reducible refine gate_callee (f := 35) rfl ?_); refine goesL_ (some 51) rfl rfl Try.func35 (by kernel_rfl) rfl #[.slice A1 l1.length c1, .int .i64 0, .int .i64 200] rfl (by (try simp only [List.map_toArray, List.map_cons, List.map_nil]); first | done | rfl | (simp only [List.length_drop, List.length_take]; rfl)) ?_; (with_reducible refine (laws_a2At.calls _ _ l1 0 200 t154 _ ?side1 ?side2 A10.out).mono ?_); (case side1 => repeat (first | exact HR1.out | (with_reducible refine Kd.C_alloc ?_ _) | (with_reducible refine Kd.C_drewN ?_ _) | (with_reducible refine Kd.C_drew ?_))); (case side2 => exact HC1.out); rintro e w' ⟨rfl, ⟨nd, rfl⟩⟩; refine ⟨_, rfl, ?_⟩) | ((with_reducible refine gate_callee (f := 16) rfl ?_); refine goesL_ (some 56) rfl rfl Try.func16 (by kernel_rfl) rfl #[.int .i64 (wrap64 ((wrap64 (20 * t149)) + t150)), .int .i64 (wrap64 (1 + t154))] rfl (by (try simp only [List.map_toArray, List.map_cons, List.map_nil]); first | done | rfl | (simp only [List.length_drop, List.length_take]; rfl)) ?_; (with_reducible refine (impl_TurnsFor.calls (wrap64 ((wrap64 (20 * t149)) + t150)) (wrap64 (1 + t154)) t155 t156 t157 _ A11.out).mono ?_); rintro e w' ⟨rfl, ⟨nd, rfl⟩⟩; refine ⟨_, rfl, ?_⟩) | ((with_reducible refine gate_callee (f := 15) rfl ?_); refine goesL_ (some 63) rfl rfl Try.func15 (by kernel_rfl) rfl #[.int .i64 (wrap64 ((wrap64 (20 * t149)) + t150)), .int .i64 (wrap64 (1 + t154))] rfl (by (try simp only [List.map_toArray, List.map_cons, List.map_nil]); first | done | rfl | (simp only [List.length_drop, List.length_take]; rfl)) ?_; (with_reducible refine (spec_TurnsFor.calls (wrap64 ((wrap64 (20 * t149)) + t150)) (wrap64 (1 + t154)) t158 t159 t160 _ A12.out).mono ?_); rintro e w' ⟨rfl, ⟨nd, rfl⟩⟩; refine ⟨_, rfl, ?_⟩))
    (try simp only [Act.put, List.setIfInBounds_toArray, List.set_cons_zero, List.set_cons_succ])
    go_cut [101] (fun v101 wc => ∃ (kq : Nat) (x101_12 : Bool), v101 = .bool x101_12 ∧ Aside0 (laws_FnBalls.j0 kq l1 (wrap64 ((wrap64 (20 * t149)) + t150)) (wrap64 (1 + t151)) t152 (wrap64 (1 + t153)) x101_12 = some r) ∧ Aside0 (kq ≤ k) ∧ Aside0 (Below w.heap.size w wc))
    case first =>
      as_aux_lemma =>
      have H := HC13.out
      clear HC13
      by_cases c14 : t157 = t160
      · rw [if_pos c14] at H
        have c14b0 : (t157 == t160) = true := beq_iff_eq.mpr c14
        have c14b1 : (t157 != t160) = false := bne_eq_false_iff_eq.mpr c14
        clear c14
        (first | rw [c14b0] | (simp only [i64_w, i32_w]; rw [c14b0]) | skip)
        by_cases c15 : t157 = 0
        · rw [if_pos c15] at H
          have c15b0 : (t157 == 0) = true := beq_iff_eq.mpr c15
          have c15b1 : (t157 != 0) = false := bne_eq_false_iff_eq.mpr c15
          clear c15
          by_cases c16 : t155 = t158
          · rw [if_pos c16] at H
            have c16b0 : (t155 == t158) = true := beq_iff_eq.mpr c16
            have c16b1 : (t155 != t158) = false := bne_eq_false_iff_eq.mpr c16
            clear c16
            by_cases c17 : t156 = t159
            · rw [if_pos c17] at H
              have c17b0 : (t156 == t159) = true := beq_iff_eq.mpr c17
              have c17b1 : (t156 != t159) = false := bne_eq_false_iff_eq.mpr c17
              clear c17
              by_cases c18 : (wrap64 ((wrap64 (t158 * (wrap64 (1 + t154)))) + t159)) = (wrap64 ((wrap64 (20 * t149)) + t150))
              · rw [if_pos c18] at H
                have c18b0 : ((wrap64 ((wrap64 (t158 * (wrap64 (1 + t154)))) + t159)) == (wrap64 ((wrap64 (20 * t149)) + t150))) = true := beq_iff_eq.mpr c18
                have c18b1 : ((wrap64 ((wrap64 (t158 * (wrap64 (1 + t154)))) + t159)) != (wrap64 ((wrap64 (20 * t149)) + t150))) = false := bne_eq_false_iff_eq.mpr c18
                clear c18
                by_cases c19 : t159 < 0
                · rw [if_pos c19] at H
                  have c19b0 : decide (t159 < 0) = true := decide_eq_true c19
                  clear c19
                  have H' := Aside0.mk H
                  clear H
                  go_wp2
                  go_meet
                  case rel => exact ⟨_, (true), (by first | rfl | (simp; done) | (simp [*]; done)), H', ⟨by first | omega | exact Nat.le_refl _⟩, ⟨by repeat (first | (with_reducible first | exact HB.out | apply below_alloc | apply pw_below_drewN | apply below_drew1) | exact HB.out)⟩⟩
                · rw [if_neg c19] at H
                  have c19b0 : decide (t159 < 0) = false := decide_eq_false c19
                  clear c19
                  have H' := Aside0.mk H
                  clear H
                  go_wp2
                  go_meet
                  case rel => exact ⟨_, (decide (t159 ≥ (wrap64 (1 + t154)))), (by first | rfl | (simp; done) | (simp [*]; done)), H', ⟨by first | omega | exact Nat.le_refl _⟩, ⟨by repeat (first | (with_reducible first | exact HB.out | apply below_alloc | apply pw_below_drewN | apply below_drew1) | exact HB.out)⟩⟩
              · rw [if_neg c18] at H
                have c18b0 : ((wrap64 ((wrap64 (t158 * (wrap64 (1 + t154)))) + t159)) == (wrap64 ((wrap64 (20 * t149)) + t150))) = false := beq_eq_false_iff_ne.mpr c18
                have c18b1 : ((wrap64 ((wrap64 (t158 * (wrap64 (1 + t154)))) + t159)) != (wrap64 ((wrap64 (20 * t149)) + t150))) = true := bne_iff_ne.mpr c18
                have H' := Aside0.mk H
                clear H
                go_wp2
                go_meet
                case rel => exact ⟨_, (true), (by first | rfl | (simp; done) | (simp [*]; done)), H', ⟨by first | omega | exact Nat.le_refl _⟩, ⟨by repeat (first | (with_reducible first | exact HB.out | apply below_alloc | apply pw_below_drewN | apply below_drew1) | exact HB.out)⟩⟩
            · rw [if_neg c17] at H
              have c17b0 : (t156 == t159) = false := beq_eq_false_iff_ne.mpr c17
              have c17b1 : (t156 != t159) = true := bne_iff_ne.mpr c17
              have H' := Aside0.mk H
              clear H
              go_wp2
              go_meet
              case rel => exact ⟨_, (true), (by first | rfl | (simp; done) | (simp [*]; done)), H', ⟨by first | omega | exact Nat.le_refl _⟩, ⟨by repeat (first | (with_reducible first | exact HB.out | apply below_alloc | apply pw_below_drewN | apply below_drew1) | exact HB.out)⟩⟩
          · rw [if_neg c16] at H
            have c16b0 : (t155 == t158) = false := beq_eq_false_iff_ne.mpr c16
            have c16b1 : (t155 != t158) = true := bne_iff_ne.mpr c16
            have H' := Aside0.mk H
            clear H
            go_wp2
            go_meet
            case rel => exact ⟨_, (true), (by first | rfl | (simp; done) | (simp [*]; done)), H', ⟨by first | omega | exact Nat.le_refl _⟩, ⟨by repeat (first | (with_reducible first | exact HB.out | apply below_alloc | apply pw_below_drewN | apply below_drew1) | exact HB.out)⟩⟩
        · rw [if_neg c15] at H
          have c15b0 : (t157 == 0) = false := beq_eq_false_iff_ne.mpr c15
          have c15b1 : (t157 != 0) = true := bne_iff_ne.mpr c15
          have H' := Aside0.mk H
          clear H
          go_wp2
          go_meet
          case rel => exact ⟨_, (true), (by first | rfl | (simp; done) | (simp [*]; done)), H', ⟨by first | omega | exact Nat.le_refl _⟩, ⟨by repeat (first | (with_reducible first | exact HB.out | apply below_alloc | apply pw_below_drewN | apply below_drew1) | exact HB.out)⟩⟩
      · rw [if_neg c14] at H
        have c14b0 : (t157 == t160) = false := beq_eq_false_iff_ne.mpr c14
        have c14b1 : (t157 != t160) = true := bne_iff_ne.mpr c14
        (first | rw [c14b0] | (simp only [i64_w, i32_w]; rw [c14b0]) | skip)
        have H' := Aside0.mk H
        clear H
        go_wp2
        go_meet
        case rel => exact ⟨_, (true), (by first | rfl | (simp; done) | (simp [*]; done)), H', ⟨by first | omega | exact Nat.le_refl _⟩, ⟨by repeat (first | (with_reducible first | exact HB.out | apply below_alloc | apply pw_below_drewN | apply below_drew1) | exact HB.out)⟩⟩
    case rest =>
      as_aux_lemma =>
      clear HC13
      try clear c1
      try clear p2
      try clear c3
      try clear c4
      try clear p6
      try clear c13
      try clear c14
      try clear c14b0
      try clear c14b1
      try clear c15
      try clear c15b0
      try clear c15b1
      try clear c16
      try clear c16b0
      try clear c16b1
      try clear c17
      try clear c17b0
      try clear c17b1
      try clear c18
      try clear c18b0
      try clear c18b1
      try clear c19
      try clear c19b0
      obtain ⟨kq, x101_12, rfl, HA, HJ12, HB⟩ := hcut
      cases kq with
      | zero => exact absurd HA.out (by simp [laws_FnBalls.j0])
      | succ kj12 =>
        have H := HA.out
        clear HA
        simp only [laws_FnBalls.j0] at H
        by_cases c20 : x101_12 = true
        · subst c20
          have H1 : (none) = some r := by rw [if_pos rfl] at H; exact H
          clear H
          have H := H1
          clear H1
          exact absurd H (by simp)
        · replace c20 := Bool.eq_false_iff.mpr c20
          subst c20
          have H1 : ((impl_BallTurns.f kj12 (wrap64 ((wrap64 (20 * t149)) + t150)) (wrap64 (1 + t151)) t152 (wrap64 (1 + t153))).bind fun bt161 => ((spec_BallTurns.f kj12 (wrap64 ((wrap64 (20 * t149)) + t150)) (wrap64 (1 + t151)) t152 (wrap64 (1 + t153))).bind fun bt164 => (if bt161.2.2 = bt164.2.2 then (if bt161.2.2 = 0 then (if bt161.1 = bt164.1 then (if bt161.2.1 = bt164.2.1 then (if bt164.2.1 < 0 then (laws_FnBalls.j1 kj12 l1 (wrap64 ((wrap64 (20 * t149)) + t150)) (wrap64 (1 + t151)) t152 (wrap64 (1 + t153)) bt164.1 bt164.2.1 true) else (if (wrap64 (1 + t153)) = 0 then (none) else (laws_FnBalls.j1 kj12 l1 (wrap64 ((wrap64 (20 * t149)) + t150)) (wrap64 (1 + t151)) t152 (wrap64 (1 + t153)) bt164.1 bt164.2.1 (decide (bt164.2.1 ≥ (wrap64 ((wrap64 (1 + t151)) + (wrap64 ((wrap64 (Int.tdiv bt164.1 (wrap64 (1 + t153)))) * t152))))))))) else (laws_FnBalls.j1 kj12 l1 (wrap64 ((wrap64 (20 * t149)) + t150)) (wrap64 (1 + t151)) t152 (wrap64 (1 + t153)) bt164.1 bt164.2.1 true)) else (laws_FnBalls.j1 kj12 l1 (wrap64 ((wrap64 (20 * t149)) + t150)) (wrap64 (1 + t151)) t152 (wrap64 (1 + t153)) bt164.1 bt164.2.1 true)) else (laws_FnBalls.j1 kj12 l1 (wrap64 ((wrap64 (20 * t149)) + t150)) (wrap64 (1 + t151)) t152 (wrap64 (1 + t153)) bt164.1 bt164.2.1 true)) else (laws_FnBalls.j1 kj12 l1 (wrap64 ((wrap64 (20 * t149)) + t150)) (wrap64 (1 + t151)) t152 (wrap64 (1 + t153)) bt164.1 bt164.2.1 true)))) = some r := by rw [if_neg (show ¬ (false = true) by decide)] at H; exact H
          clear H
          have H := H1
          clear H1
          replace H := Option.bind_eq_some_iff.mp H
          obtain ⟨⟨t161, t162, t163⟩, A210, H⟩ := H
          replace H : ((spec_BallTurns.f kj12 (wrap64 ((wrap64 (20 * t149)) + t150)) (wrap64 (1 + t151)) t152 (wrap64 (1 + t153))).bind fun bt164 => (if t163 = bt164.2.2 then (if t163 = 0 then (if t161 = bt164.1 then (if t162 = bt164.2.1 then (if bt164.2.1 < 0 then (laws_FnBalls.j1 kj12 l1 (wrap64 ((wrap64 (20 * t149)) + t150)) (wrap64 (1 + t151)) t152 (wrap64 (1 + t153)) bt164.1 bt164.2.1 true) else (if (wrap64 (1 + t153)) = 0 then (none) else (laws_FnBalls.j1 kj12 l1 (wrap64 ((wrap64 (20 * t149)) + t150)) (wrap64 (1 + t151)) t152 (wrap64 (1 + t153)) bt164.1 bt164.2.1 (decide (bt164.2.1 ≥ (wrap64 ((wrap64 (1 + t151)) + (wrap64 ((wrap64 (Int.tdiv bt164.1 (wrap64 (1 + t153)))) * t152))))))))) else (laws_FnBalls.j1 kj12 l1 (wrap64 ((wrap64 (20 * t149)) + t150)) (wrap64 (1 + t151)) t152 (wrap64 (1 + t153)) bt164.1 bt164.2.1 true)) else (laws_FnBalls.j1 kj12 l1 (wrap64 ((wrap64 (20 * t149)) + t150)) (wrap64 (1 + t151)) t152 (wrap64 (1 + t153)) bt164.1 bt164.2.1 true)) else (laws_FnBalls.j1 kj12 l1 (wrap64 ((wrap64 (20 * t149)) + t150)) (wrap64 (1 + t151)) t152 (wrap64 (1 + t153)) bt164.1 bt164.2.1 true)) else (laws_FnBalls.j1 kj12 l1 (wrap64 ((wrap64 (20 * t149)) + t150)) (wrap64 (1 + t151)) t152 (wrap64 (1 + t153)) bt164.1 bt164.2.1 true))) = some r := H
          have A21 := Aside0.mk A210
          clear A210
          replace H := Option.bind_eq_some_iff.mp H
          obtain ⟨⟨t164, t165, t166⟩, A220, H⟩ := H
          replace H : (if t163 = t166 then (if t163 = 0 then (if t161 = t164 then (if t162 = t165 then (if t165 < 0 then (laws_FnBalls.j1 kj12 l1 (wrap64 ((wrap64 (20 * t149)) + t150)) (wrap64 (1 + t151)) t152 (wrap64 (1 + t153)) t164 t165 true) else (if (wrap64 (1 + t153)) = 0 then (none) else (laws_FnBalls.j1 kj12 l1 (wrap64 ((wrap64 (20 * t149)) + t150)) (wrap64 (1 + t151)) t152 (wrap64 (1 + t153)) t164 t165 (decide (t165 ≥ (wrap64 ((wrap64 (1 + t151)) + (wrap64 ((wrap64 (Int.tdiv t164 (wrap64 (1 + t153)))) * t152))))))))) else (laws_FnBalls.j1 kj12 l1 (wrap64 ((wrap64 (20 * t149)) + t150)) (wrap64 (1 + t151)) t152 (wrap64 (1 + t153)) t164 t165 true)) else (laws_FnBalls.j1 kj12 l1 (wrap64 ((wrap64 (20 * t149)) + t150)) (wrap64 (1 + t151)) t152 (wrap64 (1 + t153)) t164 t165 true)) else (laws_FnBalls.j1 kj12 l1 (wrap64 ((wrap64 (20 * t149)) + t150)) (wrap64 (1 + t151)) t152 (wrap64 (1 + t153)) t164 t165 true)) else (laws_FnBalls.j1 kj12 l1 (wrap64 ((wrap64 (20 * t149)) + t150)) (wrap64 (1 + t151)) t152 (wrap64 (1 + t153)) t164 t165 true)) = some r := H
          have A22 := Aside0.mk A220
          clear A220
          have HC23 := Aside0.mk H
          clear H
          go_upto_region 14 with (first | ((with_reducible refine gate_callee (f := 20) rfl ?_); refine goesL_ (some 107) rfl rfl Try.func20 (by kernel_rfl) rfl #[.int .i64 (wrap64 ((wrap64 (20 * t149)) + t150)), .int .i64 (wrap64 (1 + t151)), .int .i64 t152, .int .i64 (wrap64 (1 + t153))] rfl (by (try simp only [List.map_toArray, List.map_cons, List.map_nil]); first | done | rfl | (simp only [List.length_drop, List.length_take]; rfl)) ?_; (with_reducible refine (impl_BallTurns.calls kj12 (wrap64 ((wrap64 (20 * t149)) + t150)) (wrap64 (1 + t151)) t152 (wrap64 (1 + t153)) t161 t162 t163 _ A21.out).mono ?_); rintro e w' ⟨rfl, ⟨nd, rfl⟩⟩; refine ⟨_, rfl, ?_⟩) | ((with_reducible refine gate_callee (f := 19) rfl ?_); refine goesL_ (some 116) rfl rfl Try.func19 (by kernel_rfl) rfl #[.int .i64 (wrap64 ((wrap64 (20 * t149)) + t150)), .int .i64 (wrap64 (1 + t151)), .int .i64 t152, .int .i64 (wrap64 (1 + t153))] rfl (by (try simp only [List.map_toArray, List.map_cons, List.map_nil]); first | done | rfl | (simp only [List.length_drop, List.length_take]; rfl)) ?_; (with_reducible refine (spec_BallTurns.calls kj12 (wrap64 ((wrap64 (20 * t149)) + t150)) (wrap64 (1 + t151)) t152 (wrap64 (1 + t153)) t164 t165 t166 _ A22.out).mono ?_); rintro e w' ⟨rfl, ⟨nd, rfl⟩⟩; refine ⟨_, rfl, ?_⟩))
          (try simp only [Act.put, List.setIfInBounds_toArray, List.set_cons_zero, List.set_cons_succ])
          go_cut [151] (fun v151 wc => ∃ (kq : Nat) (x151_22 : Bool), v151 = .bool x151_22 ∧ Aside0 (laws_FnBalls.j1 kq l1 (wrap64 ((wrap64 (20 * t149)) + t150)) (wrap64 (1 + t151)) t152 (wrap64 (1 + t153)) t164 t165 x151_22 = some r) ∧ Aside0 (kq ≤ kj12) ∧ Aside0 (Below w.heap.size w wc))
          case first =>
            as_aux_lemma =>
            have H := HC23.out
            clear HC23
            by_cases c24 : t163 = t166
            · rw [if_pos c24] at H
              have c24b0 : (t163 == t166) = true := beq_iff_eq.mpr c24
              have c24b1 : (t163 != t166) = false := bne_eq_false_iff_eq.mpr c24
              clear c24
              (first | rw [c24b0] | (simp only [i64_w, i32_w]; rw [c24b0]) | skip)
              by_cases c25 : t163 = 0
              · rw [if_pos c25] at H
                have c25b0 : (t163 == 0) = true := beq_iff_eq.mpr c25
                have c25b1 : (t163 != 0) = false := bne_eq_false_iff_eq.mpr c25
                clear c25
                by_cases c26 : t161 = t164
                · rw [if_pos c26] at H
                  have c26b0 : (t161 == t164) = true := beq_iff_eq.mpr c26
                  have c26b1 : (t161 != t164) = false := bne_eq_false_iff_eq.mpr c26
                  clear c26
                  by_cases c27 : t162 = t165
                  · rw [if_pos c27] at H
                    have c27b0 : (t162 == t165) = true := beq_iff_eq.mpr c27
                    have c27b1 : (t162 != t165) = false := bne_eq_false_iff_eq.mpr c27
                    clear c27
                    by_cases c28 : t165 < 0
                    · rw [if_pos c28] at H
                      have c28b0 : decide (t165 < 0) = true := decide_eq_true c28
                      clear c28
                      have H' := Aside0.mk H
                      clear H
                      go_wp2
                      go_meet
                      case rel => exact ⟨_, (true), (by first | rfl | (simp; done) | (simp [*]; done)), H', ⟨by have := HJ12.out; first | omega | exact Nat.le_refl _⟩, ⟨by repeat (first | (with_reducible first | exact HB.out | apply below_alloc | apply pw_below_drewN | apply below_drew1) | exact HB.out)⟩⟩
                    · rw [if_neg c28] at H
                      have c28b0 : decide (t165 < 0) = false := decide_eq_false c28
                      clear c28
                      by_cases c29 : (wrap64 (1 + t153)) = 0
                      · rw [if_pos c29] at H
                        exact absurd H (by simp)
                      · rw [if_neg c29] at H
                        have c29b0 : ((wrap64 (1 + t153)) == 0) = false := beq_eq_false_iff_ne.mpr c29
                        have c29b1 : ((wrap64 (1 + t153)) != 0) = true := bne_iff_ne.mpr c29
                        have H' := Aside0.mk H
                        clear H
                        go_wp2
                        go_meet
                        case rel => exact ⟨_, (decide (t165 ≥ (wrap64 ((wrap64 (1 + t151)) + (wrap64 ((wrap64 (Int.tdiv t164 (wrap64 (1 + t153)))) * t152)))))), (by first | rfl | (simp; done) | (simp [*]; done)), H', ⟨by have := HJ12.out; first | omega | exact Nat.le_refl _⟩, ⟨by repeat (first | (with_reducible first | exact HB.out | apply below_alloc | apply pw_below_drewN | apply below_drew1) | exact HB.out)⟩⟩
                  · rw [if_neg c27] at H
                    have c27b0 : (t162 == t165) = false := beq_eq_false_iff_ne.mpr c27
                    have c27b1 : (t162 != t165) = true := bne_iff_ne.mpr c27
                    have H' := Aside0.mk H
                    clear H
                    go_wp2
                    go_meet
                    case rel => exact ⟨_, (true), (by first | rfl | (simp; done) | (simp [*]; done)), H', ⟨by have := HJ12.out; first | omega | exact Nat.le_refl _⟩, ⟨by repeat (first | (with_reducible first | exact HB.out | apply below_alloc | apply pw_below_drewN | apply below_drew1) | exact HB.out)⟩⟩
                · rw [if_neg c26] at H
                  have c26b0 : (t161 == t164) = false := beq_eq_false_iff_ne.mpr c26
                  have c26b1 : (t161 != t164) = true := bne_iff_ne.mpr c26
                  have H' := Aside0.mk H
                  clear H
                  go_wp2
                  go_meet
                  case rel => exact ⟨_, (true), (by first | rfl | (simp; done) | (simp [*]; done)), H', ⟨by have := HJ12.out; first | omega | exact Nat.le_refl _⟩, ⟨by repeat (first | (with_reducible first | exact HB.out | apply below_alloc | apply pw_below_drewN | apply below_drew1) | exact HB.out)⟩⟩
              · rw [if_neg c25] at H
                have c25b0 : (t163 == 0) = false := beq_eq_false_iff_ne.mpr c25
                have c25b1 : (t163 != 0) = true := bne_iff_ne.mpr c25
                have H' := Aside0.mk H
                clear H
                go_wp2
                go_meet
                case rel => exact ⟨_, (true), (by first | rfl | (simp; done) | (simp [*]; done)), H', ⟨by have := HJ12.out; first | omega | exact Nat.le_refl _⟩, ⟨by repeat (first | (with_reducible first | exact HB.out | apply below_alloc | apply pw_below_drewN | apply below_drew1) | exact HB.out)⟩⟩
            · rw [if_neg c24] at H
              have c24b0 : (t163 == t166) = false := beq_eq_false_iff_ne.mpr c24
              have c24b1 : (t163 != t166) = true := bne_iff_ne.mpr c24
              (first | rw [c24b0] | (simp only [i64_w, i32_w]; rw [c24b0]) | skip)
              have H' := Aside0.mk H
              clear H
              go_wp2
              go_meet
              case rel => exact ⟨_, (true), (by first | rfl | (simp; done) | (simp [*]; done)), H', ⟨by have := HJ12.out; first | omega | exact Nat.le_refl _⟩, ⟨by repeat (first | (with_reducible first | exact HB.out | apply below_alloc | apply pw_below_drewN | apply below_drew1) | exact HB.out)⟩⟩
          case rest =>
            as_aux_lemma =>
            clear HC23
            try clear c1
            try clear c2
            try clear p2
            try clear c3
            try clear c4
            try clear p6
            try clear c13
            try clear c14
            try clear c14b0
            try clear c14b1
            try clear c15
            try clear c15b0
            try clear c15b1
            try clear c16
            try clear c16b0
            try clear c16b1
            try clear c17
            try clear c17b0
            try clear c17b1
            try clear c18
            try clear c18b0
            try clear c18b1
            try clear c19
            try clear c19b0
            try clear c20
            try clear c24
            try clear c24b0
            try clear c24b1
            try clear c25
            try clear c25b0
            try clear c25b1
            try clear c26
            try clear c26b0
            try clear c26b1
            try clear c27
            try clear c27b0
            try clear c27b1
            try clear c28
            try clear c28b0
            try clear c29
            try clear c29b0
            try clear c29b1
            try clear p2
            try clear p6
            obtain ⟨kq, x151_22, rfl, HA, HJ22, HB⟩ := hcut
            cases kq with
            | zero => exact absurd HA.out (by simp [laws_FnBalls.j1])
            | succ kj22 =>
              have H := HA.out
              clear HA
              simp only [laws_FnBalls.j1] at H
              by_cases c30 : x151_22 = true
              · subst c30
                have H1 : (none) = some r := by rw [if_pos rfl] at H; exact H
                clear H
                have H := H1
                clear H1
                exact absurd H (by simp)
              · replace c30 := Bool.eq_false_iff.mpr c30
                subst c30
                have H1 : (if t164 < 1000 then ((impl_BallLength.f kj22 t164 (wrap64 (1 + t151)) t152 (wrap64 (1 + t153))).bind fun bt167 => ((impl_BallLength.f kj22 (wrap64 (t164 + 1)) (wrap64 (1 + t151)) t152 (wrap64 (1 + t153))).bind fun bt169 => (if bt167.2 = 0 then (if (wrap64 (bt167.1 + t165)) = (wrap64 ((wrap64 (20 * t149)) + t150)) then (if bt169.2 = 0 then (if bt169.1 ≤ (wrap64 ((wrap64 (20 * t149)) + t150)) then (none) else (laws_FnBalls.j2 kj22 l1)) else (none)) else (none)) else (none)))) else (laws_FnBalls.j2 kj22 l1)) = some r := by rw [if_neg (show ¬ (false = true) by decide)] at H; exact H
                clear H
                have H := H1
                clear H1
                have HC31 := Aside0.mk H
                clear H
                go_upto_if 153 with (fail)
                go_cut [] (fun wc => ∃ (kq : Nat), Aside0 (laws_FnBalls.j2 kq l1 = some r) ∧ Aside0 (kq ≤ kj22) ∧ Aside0 (Below w.heap.size w wc))
                case first =>
                  as_aux_lemma =>
                  have H := HC31.out
                  clear HC31
                  by_cases c32 : t164 < 1000
                  · rw [if_pos c32] at H
                    have c32b0 : decide (t164 < 1000) = true := decide_eq_true c32
                    clear c32
                    (first | rw [c32b0] | (simp only [i64_w, i32_w]; rw [c32b0]) | skip)
                    replace H := Option.bind_eq_some_iff.mp H
                    obtain ⟨⟨t167, t168⟩, A330, H⟩ := H
                    replace H : ((impl_BallLength.f kj22 (wrap64 (t164 + 1)) (wrap64 (1 + t151)) t152 (wrap64 (1 + t153))).bind fun bt169 => (if t168 = 0 then (if (wrap64 (t167 + t165)) = (wrap64 ((wrap64 (20 * t149)) + t150)) then (if bt169.2 = 0 then (if bt169.1 ≤ (wrap64 ((wrap64 (20 * t149)) + t150)) then (none) else (laws_FnBalls.j2 kj22 l1)) else (none)) else (none)) else (none))) = some r := H
                    have A33 := Aside0.mk A330
                    clear A330
                    replace H := Option.bind_eq_some_iff.mp H
                    obtain ⟨⟨t169, t170⟩, A340, H⟩ := H
                    replace H : (if t168 = 0 then (if (wrap64 (t167 + t165)) = (wrap64 ((wrap64 (20 * t149)) + t150)) then (if t170 = 0 then (if t169 ≤ (wrap64 ((wrap64 (20 * t149)) + t150)) then (none) else (laws_FnBalls.j2 kj22 l1)) else (none)) else (none)) else (none)) = some r := H
                    have A34 := Aside0.mk A340
                    clear A340
                    by_cases c35 : t168 = 0
                    · rw [if_pos c35] at H
                      have c35b0 : (t168 == 0) = true := beq_iff_eq.mpr c35
                      have c35b1 : (t168 != 0) = false := bne_eq_false_iff_eq.mpr c35
                      clear c35
                      by_cases c36 : (wrap64 (t167 + t165)) = (wrap64 ((wrap64 (20 * t149)) + t150))
                      · rw [if_pos c36] at H
                        have c36b0 : ((wrap64 (t167 + t165)) == (wrap64 ((wrap64 (20 * t149)) + t150))) = true := beq_iff_eq.mpr c36
                        have c36b1 : ((wrap64 (t167 + t165)) != (wrap64 ((wrap64 (20 * t149)) + t150))) = false := bne_eq_false_iff_eq.mpr c36
                        clear c36
                        by_cases c37 : t170 = 0
                        · rw [if_pos c37] at H
                          have c37b0 : (t170 == 0) = true := beq_iff_eq.mpr c37
                          have c37b1 : (t170 != 0) = false := bne_eq_false_iff_eq.mpr c37
                          clear c37
                          by_cases c38 : t169 ≤ (wrap64 ((wrap64 (20 * t149)) + t150))
                          · rw [if_pos c38] at H
                            exact absurd H (by simp)
                          · rw [if_neg c38] at H
                            have c38b0 : decide (t169 ≤ (wrap64 ((wrap64 (20 * t149)) + t150))) = false := decide_eq_false c38
                            clear c38
                            have H' := Aside0.mk H
                            clear H
                            go_wp2_with (first | ((with_reducible refine gate_callee (f := 18) rfl ?_); refine goesL_ (some 159) rfl rfl Try.func18 (by kernel_rfl) rfl #[.int .i64 t164, .int .i64 (wrap64 (1 + t151)), .int .i64 t152, .int .i64 (wrap64 (1 + t153))] rfl (by (try simp only [List.map_toArray, List.map_cons, List.map_nil]); first | done | rfl | (simp only [List.length_drop, List.length_take]; rfl)) ?_; (with_reducible refine (impl_BallLength.calls kj22 t164 (wrap64 (1 + t151)) t152 (wrap64 (1 + t153)) t167 t168 _ A33.out).mono ?_); rintro e w' ⟨rfl, ⟨nd, rfl⟩⟩; refine ⟨_, rfl, ?_⟩) | ((with_reducible refine gate_callee (f := 18) rfl ?_); refine goesL_ (some 168) rfl rfl Try.func18 (by kernel_rfl) rfl #[.int .i64 (wrap64 (t164 + 1)), .int .i64 (wrap64 (1 + t151)), .int .i64 t152, .int .i64 (wrap64 (1 + t153))] rfl (by (try simp only [List.map_toArray, List.map_cons, List.map_nil]); first | done | rfl | (simp only [List.length_drop, List.length_take]; rfl)) ?_; (with_reducible refine (impl_BallLength.calls kj22 (wrap64 (t164 + 1)) (wrap64 (1 + t151)) t152 (wrap64 (1 + t153)) t169 t170 _ A34.out).mono ?_); rintro e w' ⟨rfl, ⟨nd, rfl⟩⟩; refine ⟨_, rfl, ?_⟩))
                            go_meet
                            case rel => exact ⟨_, H', ⟨by have := HJ12.out; have := HJ22.out; first | omega | exact Nat.le_refl _⟩, ⟨by repeat (first | (with_reducible first | exact HB.out | apply below_alloc | apply pw_below_drewN | apply below_drew1) | exact HB.out)⟩⟩
                        · rw [if_neg c37] at H
                          exact absurd H (by simp)
                      · rw [if_neg c36] at H
                        exact absurd H (by simp)
                    · rw [if_neg c35] at H
                      exact absurd H (by simp)
                  · rw [if_neg c32] at H
                    have c32b0 : decide (t164 < 1000) = false := decide_eq_false c32
                    clear c32
                    (first | rw [c32b0] | (simp only [i64_w, i32_w]; rw [c32b0]) | skip)
                    have H' := Aside0.mk H
                    clear H
                    go_wp2
                    go_meet
                    case rel => exact ⟨_, H', ⟨by have := HJ12.out; have := HJ22.out; first | omega | exact Nat.le_refl _⟩, ⟨by repeat (first | (with_reducible first | exact HB.out | apply below_alloc | apply pw_below_drewN | apply below_drew1) | exact HB.out)⟩⟩
                case rest =>
                  as_aux_lemma =>
                  clear HC31
                  try clear c1
                  try clear c2
                  try clear p2
                  try clear c3
                  try clear c4
                  try clear p6
                  try clear c13
                  try clear c14
                  try clear c14b0
                  try clear c14b1
                  try clear c15
                  try clear c15b0
                  try clear c15b1
                  try clear c16
                  try clear c16b0
                  try clear c16b1
                  try clear c17
                  try clear c17b0
                  try clear c17b1
                  try clear c18
                  try clear c18b0
                  try clear c18b1
                  try clear c19
                  try clear c19b0
                  try clear c20
                  try clear c24
                  try clear c24b0
                  try clear c24b1
                  try clear c25
                  try clear c25b0
                  try clear c25b1
                  try clear c26
                  try clear c26b0
                  try clear c26b1
                  try clear c27
                  try clear c27b0
                  try clear c27b1
                  try clear c28
                  try clear c28b0
                  try clear c29
                  try clear c29b0
                  try clear c29b1
                  try clear c30
                  try clear c32
                  try clear c32b0
                  try clear c34
                  try clear c35
                  try clear c35b0
                  try clear c35b1
                  try clear c36
                  try clear c36b0
                  try clear c36b1
                  try clear c37
                  try clear c37b0
                  try clear c37b1
                  try clear c38
                  try clear c38b0
                  try clear p2
                  try clear p6
                  obtain ⟨kq, HA, HJ30, HB⟩ := hcut
                  cases kq with
                  | zero => exact absurd HA.out (by simp [laws_FnBalls.j2])
                  | succ kj30 =>
                    have H := HA.out
                    clear HA
                    simp only [laws_FnBalls.j2] at H
                    replace H := Option.bind_eq_some_iff.mp H
                    obtain ⟨t171, A390, H⟩ := H
                    replace H : ((laws_a2At.f l1 2 9).bind fun t172 => ((impl_TiesFor.f kj30 t171 (wrap64 (1 + t172))).bind fun bt173 => ((spec_TiesFor.f kj30 t171 (wrap64 (1 + t172))).bind fun bt177 => (if bt173.2 = bt177.2 then (if bt173.2 = 0 then ((spec_A2Same.f kj30 bt173.1 bt177.1).bind fun t181 => (if t181 = true then (if (wrap64 (1 + t172)) = 0 then (none) else (laws_FnBalls.j3 kj30 t171 (wrap64 (1 + t172)) bt177.1 ((bt177.1.length : Int) != (wrap64 (Int.tdiv (wrap64 ((wrap64 (t171 + (wrap64 (1 + t172)))) - 1)) (wrap64 (1 + t172))))))) else (laws_FnBalls.j3 kj30 t171 (wrap64 (1 + t172)) bt177.1 true))) else (laws_FnBalls.j3 kj30 t171 (wrap64 (1 + t172)) bt177.1 true)) else (laws_FnBalls.j3 kj30 t171 (wrap64 (1 + t172)) bt177.1 true))))) = some r := H
                    have A39 := Aside0.mk A390
                    clear A390
                    replace H := Option.bind_eq_some_iff.mp H
                    obtain ⟨t172, A400, H⟩ := H
                    replace H : ((impl_TiesFor.f kj30 t171 (wrap64 (1 + t172))).bind fun bt173 => ((spec_TiesFor.f kj30 t171 (wrap64 (1 + t172))).bind fun bt177 => (if bt173.2 = bt177.2 then (if bt173.2 = 0 then ((spec_A2Same.f kj30 bt173.1 bt177.1).bind fun t181 => (if t181 = true then (if (wrap64 (1 + t172)) = 0 then (none) else (laws_FnBalls.j3 kj30 t171 (wrap64 (1 + t172)) bt177.1 ((bt177.1.length : Int) != (wrap64 (Int.tdiv (wrap64 ((wrap64 (t171 + (wrap64 (1 + t172)))) - 1)) (wrap64 (1 + t172))))))) else (laws_FnBalls.j3 kj30 t171 (wrap64 (1 + t172)) bt177.1 true))) else (laws_FnBalls.j3 kj30 t171 (wrap64 (1 + t172)) bt177.1 true)) else (laws_FnBalls.j3 kj30 t171 (wrap64 (1 + t172)) bt177.1 true)))) = some r := H
                    have A40 := Aside0.mk A400
                    clear A400
                    replace H := Option.bind_eq_some_iff.mp H
                    obtain ⟨⟨t173, t174⟩, A410, H⟩ := H
                    replace H : ((spec_TiesFor.f kj30 t171 (wrap64 (1 + t172))).bind fun bt177 => (if t174 = bt177.2 then (if t174 = 0 then ((spec_A2Same.f kj30 t173 bt177.1).bind fun t181 => (if t181 = true then (if (wrap64 (1 + t172)) = 0 then (none) else (laws_FnBalls.j3 kj30 t171 (wrap64 (1 + t172)) bt177.1 ((bt177.1.length : Int) != (wrap64 (Int.tdiv (wrap64 ((wrap64 (t171 + (wrap64 (1 + t172)))) - 1)) (wrap64 (1 + t172))))))) else (laws_FnBalls.j3 kj30 t171 (wrap64 (1 + t172)) bt177.1 true))) else (laws_FnBalls.j3 kj30 t171 (wrap64 (1 + t172)) bt177.1 true)) else (laws_FnBalls.j3 kj30 t171 (wrap64 (1 + t172)) bt177.1 true))) = some r := H
                    have A41 := Aside0.mk A410
                    clear A410
                    replace H := Option.bind_eq_some_iff.mp H
                    obtain ⟨⟨t177, t178⟩, A420, H⟩ := H
                    replace H : (if t174 = t178 then (if t174 = 0 then ((spec_A2Same.f kj30 t173 t177).bind fun t181 => (if t181 = true then (if (wrap64 (1 + t172)) = 0 then (none) else (laws_FnBalls.j3 kj30 t171 (wrap64 (1 + t172)) t177 ((t177.length : Int) != (wrap64 (Int.tdiv (wrap64 ((wrap64 (t171 + (wrap64 (1 + t172)))) - 1)) (wrap64 (1 + t172))))))) else (laws_FnBalls.j3 kj30 t171 (wrap64 (1 + t172)) t177 true))) else (laws_FnBalls.j3 kj30 t171 (wrap64 (1 + t172)) t177 true)) else (laws_FnBalls.j3 kj30 t171 (wrap64 (1 + t172)) t177 true)) = some r := H
                    have A42 := Aside0.mk A420
                    clear A420
                    have HC43 := Aside0.mk H
                    clear H
                    go_upto_region 25 with (first | ((with_reducible refine gate_callee (f := 35) rfl ?_); refine goesL_ (some 190) rfl rfl Try.func35 (by kernel_rfl) rfl #[.slice A1 l1.length c1, .int .i64 1, .int .i64 60] rfl (by (try simp only [List.map_toArray, List.map_cons, List.map_nil]); first | done | rfl | (simp only [List.length_drop, List.length_take]; rfl)) ?_; (with_reducible refine (laws_a2At.calls _ _ l1 1 60 t171 _ ?side1 ?side2 A39.out).mono ?_); (case side1 => repeat (first | exact (Kd.C_below HR1.out HB.out) | (with_reducible refine Kd.C_alloc ?_ _) | (with_reducible refine Kd.C_drewN ?_ _) | (with_reducible refine Kd.C_drew ?_))); (case side2 => exact HC1.out); rintro e w' ⟨rfl, ⟨nd, rfl⟩⟩; refine ⟨_, rfl, ?_⟩) | ((with_reducible refine gate_callee (f := 35) rfl ?_); refine goesL_ (some 192) rfl rfl Try.func35 (by kernel_rfl) rfl #[.slice A1 l1.length c1, .int .i64 2, .int .i64 9] rfl (by (try simp only [List.map_toArray, List.map_cons, List.map_nil]); first | done | rfl | (simp only [List.length_drop, List.length_take]; rfl)) ?_; (with_reducible refine (laws_a2At.calls _ _ l1 2 9 t172 _ ?side1 ?side2 A40.out).mono ?_); (case side1 => repeat (first | exact (Kd.C_below HR1.out (by repeat (first | (with_reducible first | exact HB.out | apply below_alloc | apply pw_below_drewN | apply below_drew1) | exact HB.out))) | (with_reducible refine Kd.C_alloc ?_ _) | (with_reducible refine Kd.C_drewN ?_ _) | (with_reducible refine Kd.C_drew ?_))); (case side2 => exact HC1.out); rintro e w' ⟨rfl, ⟨nd, rfl⟩⟩; refine ⟨_, rfl, ?_⟩) | ((with_reducible refine gate_callee (f := 25) rfl ?_); refine goesL_ (some 197) rfl rfl Try.func25 (by kernel_rfl) rfl #[.int .i64 t171, .int .i64 (wrap64 (1 + t172))] rfl (by (try simp only [List.map_toArray, List.map_cons, List.map_nil]); first | done | rfl | (simp only [List.length_drop, List.length_take]; rfl)) ?_; (with_reducible refine (impl_TiesFor.calls kj30 t171 (wrap64 (1 + t172)) t173 t174 _ A41.out).mono ?_); rintro e w44 ⟨v175, rfl, ho0, hb⟩; refine ⟨_, rfl, ?_⟩; have n0_ := Aside0.mk (Kd.R_lower ho0 (below_size (by repeat (first | (with_reducible first | exact HB.out | apply below_alloc | apply pw_below_drewN | apply below_drew1) | exact HB.out)))); have n1_ := Aside0.mk (below_step (by repeat (first | (with_reducible first | exact HB.out | apply below_alloc | apply pw_below_drewN | apply below_drew1) | exact HB.out)) hb); clear HB; have HO176 := n0_; have HB := n1_; clear n0_ n1_; (try clear hb); (try clear hb2); (try clear hk); (try clear hi); (try clear ho0)) | ((with_reducible refine gate_callee (f := 24) rfl ?_); refine goesL_ (some 203) rfl rfl Try.func24 (by kernel_rfl) rfl #[.int .i64 t171, .int .i64 (wrap64 (1 + t172))] rfl (by (try simp only [List.map_toArray, List.map_cons, List.map_nil]); first | done | rfl | (simp only [List.length_drop, List.length_take]; rfl)) ?_; (with_reducible refine (spec_TiesFor.calls kj30 t171 (wrap64 (1 + t172)) t177 t178 _ A42.out).mono ?_); rintro e w45 ⟨v179, rfl, ho0, hb⟩; refine ⟨_, rfl, ?_⟩; have n0_ := Aside0.mk (Kd.R_elder' (by (with_reducible repeat (first | apply Kd.R_alloc | apply Kd.R_drewN | apply Kd.R_drew)); exact HO176.out) (Kd.R_base ho0) hb); have n1_ := Aside0.mk (Kd.R_lower (Kd.R_new' ho0 (Kd.R_lt (by (with_reducible repeat (first | apply Kd.R_alloc | apply Kd.R_drewN | apply Kd.R_drew)); exact HO176.out))) (below_size (by repeat (first | (with_reducible first | exact HB.out | apply below_alloc | apply pw_below_drewN | apply below_drew1) | exact HB.out)))); have n2_ := Aside0.mk (below_step (by repeat (first | (with_reducible first | exact HB.out | apply below_alloc | apply pw_below_drewN | apply below_drew1) | exact HB.out)) hb); clear HO176; clear HB; have HO176 := n0_; have HO180 := n1_; have HB := n2_; clear n0_ n1_ n2_; (try clear hb); (try clear hb2); (try clear hk); (try clear hi); (try clear ho0)))
                    (try simp only [Act.put, List.setIfInBounds_toArray, List.set_cons_zero, List.set_cons_succ])
                    go_cut [229] (fun v229 wc => ∃ (kq : Nat) (x229_42 : Bool), v229 = .bool x229_42 ∧ Aside0 (laws_FnBalls.j3 kq t171 (wrap64 (1 + t172)) t177 x229_42 = some r) ∧ Aside0 (kq ≤ kj30) ∧ Aside0 (Kd.R (Kd.int .i64) 2 wc w.heap.size (fun _ => True) v179 t177) ∧ Aside0 (Below w.heap.size w wc))
                    case first =>
                      as_aux_lemma =>
                      have H := HC43.out
                      clear HC43
                      by_cases c46 : t174 = t178
                      · rw [if_pos c46] at H
                        have c46b0 : (t174 == t178) = true := beq_iff_eq.mpr c46
                        have c46b1 : (t174 != t178) = false := bne_eq_false_iff_eq.mpr c46
                        clear c46
                        (first | rw [c46b0] | (simp only [i64_w, i32_w]; rw [c46b0]) | skip)
                        by_cases c47 : t174 = 0
                        · rw [if_pos c47] at H
                          have c47b0 : (t174 == 0) = true := beq_iff_eq.mpr c47
                          have c47b1 : (t174 != 0) = false := bne_eq_false_iff_eq.mpr c47
                          clear c47
                          replace H := Option.bind_eq_some_iff.mp H
                          obtain ⟨t181, A480, H⟩ := H
                          replace H : (if t181 = true then (if (wrap64 (1 + t172)) = 0 then (none) else (laws_FnBalls.j3 kj30 t171 (wrap64 (1 + t172)) t177 ((t177.length : Int) != (wrap64 (Int.tdiv (wrap64 ((wrap64 (t171 + (wrap64 (1 + t172)))) - 1)) (wrap64 (1 + t172))))))) else (laws_FnBalls.j3 kj30 t171 (wrap64 (1 + t172)) t177 true)) = some r := H
                          have A48 := Aside0.mk A480
                          clear A480
                          by_cases c49 : t181 = true
                          · subst c49
                            have H1 : (if (wrap64 (1 + t172)) = 0 then (none) else (laws_FnBalls.j3 kj30 t171 (wrap64 (1 + t172)) t177 ((t177.length : Int) != (wrap64 (Int.tdiv (wrap64 ((wrap64 (t171 + (wrap64 (1 + t172)))) - 1)) (wrap64 (1 + t172))))))) = some r := by rw [if_pos rfl] at H; exact H
                            clear H
                            have H := H1
                            clear H1
                            by_cases c50 : (wrap64 (1 + t172)) = 0
                            · rw [if_pos c50] at H
                              exact absurd H (by simp)
                            · rw [if_neg c50] at H
                              have c50b0 : ((wrap64 (1 + t172)) == 0) = false := beq_eq_false_iff_ne.mpr c50
                              have c50b1 : ((wrap64 (1 + t172)) != 0) = true := bne_iff_ne.mpr c50
                              have H' := Aside0.mk H
                              clear H
                              obtain ⟨Ao51, co51, eo51⟩ := Kd.R_slice HO176.out
                              subst eo51
                              obtain ⟨Ao52, co52, eo52⟩ := Kd.R_slice HO180.out
                              subst eo52
                              go_wp2_with (first | (go_at_call 42; (with_reducible refine (spec_A2Same.calls kj30 _ _ t173 _ _ t177 true _ ?side1 ?side2 ?side3 ?side4 A48.out).mono ?_); (case side1 => repeat (first | exact (Kd.R_reads' HO176.out).2.2 | (with_reducible refine Kd.C_alloc ?_ _) | (with_reducible refine Kd.C_drewN ?_ _) | (with_reducible refine Kd.C_drew ?_))); (case side2 => exact (Kd.R_reads' HO176.out).2.1); (case side3 => repeat (first | exact (Kd.R_reads' HO180.out).2.2 | (with_reducible refine Kd.C_alloc ?_ _) | (with_reducible refine Kd.C_drewN ?_ _) | (with_reducible refine Kd.C_drew ?_))); (case side4 => exact (Kd.R_reads' HO180.out).2.1); rintro e w' ⟨rfl, ⟨nd, rfl⟩⟩))
                              go_meet
                              case rel => exact ⟨_, (((t177.length : Int) != (wrap64 (Int.tdiv (wrap64 ((wrap64 (t171 + (wrap64 (1 + t172)))) - 1)) (wrap64 (1 + t172)))))), (by first | rfl | (simp; done) | (simp [*]; done)), H', ⟨by have := HJ12.out; have := HJ22.out; have := HJ30.out; first | omega | exact Nat.le_refl _⟩, ⟨by (with_reducible repeat (first | apply Kd.R_alloc | apply Kd.R_drewN | apply Kd.R_drew)); exact Kd.R_mono HO180.out (fun _ hk => trivial)⟩, ⟨by repeat (first | (with_reducible first | exact HB.out | apply below_alloc | apply pw_below_drewN | apply below_drew1) | exact HB.out)⟩⟩
                          · replace c49 := Bool.eq_false_iff.mpr c49
                            subst c49
                            have H1 : (laws_FnBalls.j3 kj30 t171 (wrap64 (1 + t172)) t177 true) = some r := by rw [if_neg (show ¬ (false = true) by decide)] at H; exact H
                            clear H
                            have H := H1
                            clear H1
                            have H' := Aside0.mk H
                            clear H
                            obtain ⟨Ao53, co53, eo53⟩ := Kd.R_slice HO176.out
                            subst eo53
                            obtain ⟨Ao54, co54, eo54⟩ := Kd.R_slice HO180.out
                            subst eo54
                            go_wp2_with (first | (go_at_call 42; (with_reducible refine (spec_A2Same.calls kj30 _ _ t173 _ _ t177 false _ ?side1 ?side2 ?side3 ?side4 A48.out).mono ?_); (case side1 => repeat (first | exact (Kd.R_reads' HO176.out).2.2 | (with_reducible refine Kd.C_alloc ?_ _) | (with_reducible refine Kd.C_drewN ?_ _) | (with_reducible refine Kd.C_drew ?_))); (case side2 => exact (Kd.R_reads' HO176.out).2.1); (case side3 => repeat (first | exact (Kd.R_reads' HO180.out).2.2 | (with_reducible refine Kd.C_alloc ?_ _) | (with_reducible refine Kd.C_drewN ?_ _) | (with_reducible refine Kd.C_drew ?_))); (case side4 => exact (Kd.R_reads' HO180.out).2.1); rintro e w' ⟨rfl, ⟨nd, rfl⟩⟩))
                            go_meet
                            case rel => exact ⟨_, (true), (by first | rfl | (simp; done) | (simp [*]; done)), H', ⟨by have := HJ12.out; have := HJ22.out; have := HJ30.out; first | omega | exact Nat.le_refl _⟩, ⟨by (with_reducible repeat (first | apply Kd.R_alloc | apply Kd.R_drewN | apply Kd.R_drew)); exact Kd.R_mono HO180.out (fun _ hk => trivial)⟩, ⟨by repeat (first | (with_reducible first | exact HB.out | apply below_alloc | apply pw_below_drewN | apply below_drew1) | exact HB.out)⟩⟩
                        · rw [if_neg c47] at H
                          have c47b0 : (t174 == 0) = false := beq_eq_false_iff_ne.mpr c47
                          have c47b1 : (t174 != 0) = true := bne_iff_ne.mpr c47
                          have H' := Aside0.mk H
                          clear H
                          go_wp2
                          go_meet
                          case rel => exact ⟨_, (true), (by first | rfl | (simp; done) | (simp [*]; done)), H', ⟨by have := HJ12.out; have := HJ22.out; have := HJ30.out; first | omega | exact Nat.le_refl _⟩, ⟨by (with_reducible repeat (first | apply Kd.R_alloc | apply Kd.R_drewN | apply Kd.R_drew)); exact Kd.R_mono HO180.out (fun _ hk => trivial)⟩, ⟨by repeat (first | (with_reducible first | exact HB.out | apply below_alloc | apply pw_below_drewN | apply below_drew1) | exact HB.out)⟩⟩
                      · rw [if_neg c46] at H
                        have c46b0 : (t174 == t178) = false := beq_eq_false_iff_ne.mpr c46
                        have c46b1 : (t174 != t178) = true := bne_iff_ne.mpr c46
                        (first | rw [c46b0] | (simp only [i64_w, i32_w]; rw [c46b0]) | skip)
                        have H' := Aside0.mk H
                        clear H
                        go_wp2
                        go_meet
                        case rel => exact ⟨_, (true), (by first | rfl | (simp; done) | (simp [*]; done)), H', ⟨by have := HJ12.out; have := HJ22.out; have := HJ30.out; first | omega | exact Nat.le_refl _⟩, ⟨by (with_reducible repeat (first | apply Kd.R_alloc | apply Kd.R_drewN | apply Kd.R_drew)); exact Kd.R_mono HO180.out (fun _ hk => trivial)⟩, ⟨by repeat (first | (with_reducible first | exact HB.out | apply below_alloc | apply pw_below_drewN | apply below_drew1) | exact HB.out)⟩⟩
                    case rest =>
                      as_aux_lemma =>
                      clear HC43
                      try clear c1
                      try clear c2
                      try clear p2
                      try clear c3
                      try clear c4
                      try clear c5
                      try clear p6
                      try clear c13
                      try clear c14
                      try clear c14b0
                      try clear c14b1
                      try clear c15
                      try clear c15b0
                      try clear c15b1
                      try clear c16
                      try clear c16b0
                      try clear c16b1
                      try clear c17
                      try clear c17b0
                      try clear c17b1
                      try clear c18
                      try clear c18b0
                      try clear c18b1
                      try clear c19
                      try clear c19b0
                      try clear c20
                      try clear c24
                      try clear c24b0
                      try clear c24b1
                      try clear c25
                      try clear c25b0
                      try clear c25b1
                      try clear c26
                      try clear c26b0
                      try clear c26b1
                      try clear c27
                      try clear c27b0
                      try clear c27b1
                      try clear c28
                      try clear c28b0
                      try clear c29
                      try clear c29b0
                      try clear c29b1
                      try clear c30
                      try clear c32
                      try clear c32b0
                      try clear c34
                      try clear c35
                      try clear c35b0
                      try clear c35b1
                      try clear c36
                      try clear c36b0
                      try clear c36b1
                      try clear c37
                      try clear c37b0
                      try clear c37b1
                      try clear c38
                      try clear c38b0
                      try clear c46
                      try clear c46b0
                      try clear c46b1
                      try clear c47
                      try clear c47b0
                      try clear c47b1
                      try clear c49
                      try clear c50
                      try clear c50b0
                      try clear c50b1
                      try clear p2
                      try clear p6
                      obtain ⟨kq, x229_42, rfl, HA, HJ42, HO_30, HB⟩ := hcut
                      cases kq with
                      | zero => exact absurd HA.out (by simp [laws_FnBalls.j3])
                      | succ kj42 =>
                        have H := HA.out
                        clear HA
                        simp only [laws_FnBalls.j3] at H
                        by_cases c55 : x229_42 = true
                        · subst c55
                          have H1 : (none) = some r := by rw [if_pos rfl] at H; exact H
                          clear H
                          have H := H1
                          clear H1
                          exact absurd H (by simp)
                        · replace c55 := Bool.eq_false_iff.mpr c55
                          subst c55
                          have H1 : (laws_FnBalls.l0 kj42 t171 (wrap64 (1 + t172)) t177 0) = some r := by rw [if_neg (show ¬ (false = true) by decide)] at H; exact H
                          clear H
                          have H := H1
                          clear H1
                          have H' := Aside0.mk H
                          clear H
                          go_wp2
                          go_loopg [32] kj42 (fun kq v32 w' => ∃ (x32_5 : Int), v32 = .int .i64 x32_5 ∧ Aside0 (laws_FnBalls.l0 kq t171 (wrap64 (1 + t172)) t177 x32_5 = some r) ∧ Aside0 (kq ≤ kj42) ∧ Aside0 (Kd.R (Kd.int .i64) 2 w' w.heap.size (fun _ => True) v179 t177) ∧ Aside0 (Below w.heap.size w w'))
                          case atStart => exact ⟨(0), (by first | rfl | (simp; done) | (simp [*]; done)), H', ⟨Nat.le_refl _⟩, ⟨by (with_reducible repeat (first | apply Kd.R_alloc | apply Kd.R_drewN | apply Kd.R_drew)); exact HO_30.out⟩, ⟨by repeat (first | (with_reducible first | exact HB.out | apply below_alloc | apply pw_below_drewN | apply below_drew1) | exact HB.out)⟩⟩
                          case round =>
                            clear H'
                            try clear c1
                            try clear c2
                            try clear p2
                            try clear c3
                            try clear c4
                            try clear c5
                            try clear p6
                            try clear c13
                            try clear c14
                            try clear c14b0
                            try clear c14b1
                            try clear c15
                            try clear c15b0
                            try clear c15b1
                            try clear c16
                            try clear c16b0
                            try clear c16b1
                            try clear c17
                            try clear c17b0
                            try clear c17b1
                            try clear c18
                            try clear c18b0
                            try clear c18b1
                            try clear c19
                            try clear c19b0
                            try clear c20
                            try clear c24
                            try clear c24b0
                            try clear c24b1
                            try clear c25
                            try clear c25b0
                            try clear c25b1
                            try clear c26
                            try clear c26b0
                            try clear c26b1
                            try clear c27
                            try clear c27b0
                            try clear c27b1
                            try clear c28
                            try clear c28b0
                            try clear c29
                            try clear c29b0
                            try clear c29b1
                            try clear c30
                            try clear c32
                            try clear c32b0
                            try clear c34
                            try clear c35
                            try clear c35b0
                            try clear c35b1
                            try clear c36
                            try clear c36b0
                            try clear c36b1
                            try clear c37
                            try clear c37b0
                            try clear c37b1
                            try clear c38
                            try clear c38b0
                            try clear c46
                            try clear c46b0
                            try clear c46b1
                            try clear c47
                            try clear c47b0
                            try clear c47b1
                            try clear c49
                            try clear c50
                            try clear c50b0
                            try clear c50b1
                            try clear c55
                            try clear p2
                            try clear p6
                            obtain ⟨x32_5, rfl, HA, HK5, HO_30, HB⟩ := hrel
                            cases gk with
                            | zero => exact absurd HA.out (by simp [laws_FnBalls.l0])
                            | succ k5 =>
                              have H := HA.out
                              clear HA
                              simp only [laws_FnBalls.l0] at H
                              by_cases c56 : x32_5 < (t177.length : Int)
                              · rw [if_pos c56] at H
                                have c56b0 : decide (x32_5 < (t177.length : Int)) = true := decide_eq_true c56
                                clear c56
                                by_cases c57 : 0 ≤ x32_5
                                · rw [if_pos c57] at H
                                  have c57b0 : decide (0 ≤ x32_5) = true := decide_eq_true c57
                                  clear c57
                                  obtain ⟨ji58, hji58⟩ : ∃ j_ : Int, (mn t171 (wrap64 ((wrap64 (1 + t172)) * (wrap64 (x32_5 + 1))))) = j_ := ⟨_, rfl⟩
                                  replace H : (if (rd t177 x32_5) = (ji58) then (laws_FnBalls.l0 k5 t171 (wrap64 (1 + t172)) t177 (wrap64 (x32_5 + 1))) else (none)) = some r := by first | (rw [hji58] at H; exact H) | (simp only [hji58] at H ⊢; exact H)
                                  have hji58_ : (if (wrap64 ((wrap64 (1 + t172)) * (wrap64 (x32_5 + 1)))) < t171 then (wrap64 ((wrap64 (1 + t172)) * (wrap64 (x32_5 + 1)))) else t171) = ji58 := hji58
                                  by_cases c59 : (rd t177 x32_5) = (ji58)
                                  · rw [if_pos c59] at H
                                    have c59b0 : ((rd t177 x32_5) == (ji58)) = true := beq_iff_eq.mpr c59
                                    have c59b1 : ((rd t177 x32_5) != (ji58)) = false := bne_eq_false_iff_eq.mpr c59
                                    clear c59
                                    have H' := Aside0.mk H
                                    clear H
                                    obtain ⟨Ao60, co60, eo60⟩ := Kd.R_slice HO_30.out
                                    subst eo60
                                    have p182 : 0 ≤ (x32_5 : Int) := of_decide_eq_true (by first | (with_reducible assumption) | assumption)
                                    have q182 : x32_5 < (t177.length : Int) := of_decide_eq_true (by first | (with_reducible assumption) | assumption)
                                    obtain ⟨ad182, e182, hx182_0⟩ := Kd.at_int (Kd.R_reads' HO_30.out).2.2 x32_5 p182 q182
                                    cases e182
                                    replace p182 := eq_true p182
                                    replace q182 := eq_true q182
                                    go_wp2
                                    go_roundg k5
                                    case measure => have := HJ12.out; have := HJ22.out; have := HJ30.out; have := HJ42.out; have := HK5.out; omega
                                    case rel => exact ⟨(wrap64 (x32_5 + 1)), (by first | rfl | (simp; done) | (simp [*]; done)), H', ⟨by have := HJ12.out; have := HJ22.out; have := HJ30.out; have := HJ42.out; have := HK5.out; omega⟩, ⟨by (with_reducible repeat (first | apply Kd.R_alloc | apply Kd.R_drewN | apply Kd.R_drew)); exact HO_30.out⟩, ⟨by repeat (first | (with_reducible first | exact HB.out | apply below_alloc | apply pw_below_drewN | apply below_drew1) | exact HB.out)⟩⟩
                                  · rw [if_neg c59] at H
                                    exact absurd H (by simp)
                                · rw [if_neg c57] at H
                                  exact absurd H (by simp)
                              · rw [if_neg c56] at H
                                have c56b0 : decide (x32_5 < (t177.length : Int)) = false := decide_eq_false c56
                                clear c56
                                obtain rfl := Option.some.inj H
                                obtain ⟨Ao61, co61, eo61⟩ := Kd.R_slice HO_30.out
                                subst eo61
                                go_wp2
                                go_ret
                                exact ⟨by first | rfl | (simp [errW_none, errW_some] <;> rfl) | (simp [*, errW_none, errW_some] <;> rfl), by repeat (first | (with_reducible first | exact HB.out | apply below_alloc | apply pw_below_drewN | apply below_drew1) | exact HB.out)⟩

/-- THE ONE PURE STATEMENT of laws_FnBalls: yours. -/
def laws_FnBalls.Pure : Prop := ∀ (l0 : List Int) (l1 : List Int), (l0.length * 1 ≤ 140737488351232 ∧ ∀ x_ ∈ l0, (Lit.int .u8 x_).wf = true) → (l1.length * 1 ≤ 140737488351232 ∧ ∀ x_ ∈ l1, (Lit.int .u8 x_).wf = true) → ∃ k, laws_FnBalls.f k l0 l1 = some true
theorem laws_FnBalls.walk (P : laws_FnBalls.Pure) (A0 : Option Addr) (c0 : Nat) (l0 : List Int) (A1 : Option Addr) (c1 : Nat) (l1 : List Int) (w : World) (hr0 : Kd.C (Kd.int .u8) w A0 l0.length l0) (hc0 : l0.length ≤ c0) (hr1 : Kd.C (Kd.int .u8) w A1 l1.length l1) (hc1 : l1.length ≤ c1) (g0 : (l0.length * 1 ≤ 140737488351232 ∧ ∀ x_ ∈ l0, (Lit.int .u8 x_).wf = true)) (g1 : (l1.length * 1 ≤ 140737488351232 ∧ ∀ x_ ∈ l1, (Lit.int .u8 x_).wf = true)) :
    Calls Try.prog 13 #[.slice A0 l0.length c0, .slice A1 l1.length c1] w fun e w' => e = .returned (.bool true) ∧ Below w.heap.size w w' := by
  obtain ⟨k, h⟩ := P l0 l1 g0 g1
  refine (laws_FnBalls.calls k A0 c0 l0 A1 c1 l1 true w hr0 hc0 hr1 hc1 h).mono ?_
  rintro e w' ⟨rfl, hd⟩
  exact ⟨rfl, hd⟩

end Go.Proofs.Ytpaffbkakgagaaa.XFnBalls
