/- The functions that the law FnPlies reaches: each as a Lean function, and that its call does what that function says; no conditions. -/
import Derived.Test.YthfanjdbemoaaaaXFnPliesx0
import Derived.Test.YthfanjdbemoaaaaXFnPliesx4
import Derived.Test.YthfanjdbemoaaaaXFnPliesx5
namespace Go.Proofs.Ythfanjdbemoaaaa.XFnPlies
open Go.RowKit Go.Proofs.YthfanjdbemoaaaaW.PrintWords Go.Proofs.YthfanjdbemoaaaaW.PrintLast Go.Proofs.YthfanjdbemoaaaaW.PrintMore
attribute [local go_sem] max2_int min2_int max_two min_two max_three min_three max_four min_four   -- for this text's walks alone
set_option linter.unusedVariables false
set_option linter.unusedSimpArgs false

/-! ### spec_l03Balance: function 29 -/
def spec_l03Balance.l0 : Nat → List (S33) → Int → Int → Int → Option (Int × Int)
  | 0, _, _, _, _ => none
  | k + 1, x0, x4, x5, x6 => if x6 ≤ 2000 then ((spec_l03Rest.f k x0 x6).bind fun t177 => (if t177 < x5 then ((spec_l03Rest.f k x0 (wrap64 (-x6))).bind fun t178 => (if t178 < t177 then (spec_l03Balance.l0 k x0 (wrap64 (-x6)) t178 (wrap64 (x6 + 1))) else (spec_l03Balance.l0 k x0 x6 t177 (wrap64 (x6 + 1))))) else ((spec_l03Rest.f k x0 (wrap64 (-x6))).bind fun t179 => (if t179 < x5 then (spec_l03Balance.l0 k x0 (wrap64 (-x6)) t179 (wrap64 (x6 + 1))) else (spec_l03Balance.l0 k x0 x4 x5 (wrap64 (x6 + 1))))))) else (some (x4, x5))
def spec_l03Balance.f (k : Nat) (l0 : List (S33)) : Option (Int × Int) := (spec_l03Rest.f k l0 0).bind fun t176 => (spec_l03Balance.l0 k l0 0 t176 1)
theorem spec_l03Balance.mono_l : ∀ k, (∀ y0 y1 y2 y3, LeO (spec_l03Balance.l0 k y0 y1 y2 y3) (spec_l03Balance.l0 (k + 1) y0 y1 y2 y3))
  | 0 => fun _ _ _ _ r h => by simp [spec_l03Balance.l0] at h
  | k + 1 => by
    have ih0 := spec_l03Balance.mono_l k
    · intro y0 y1 y2 y3
      unfold spec_l03Balance.l0
      repeat' first
      | (with_reducible exact ih0 _ _ _ _)
      | (with_reducible exact spec_l03Rest.mono _ _ _)
      | (with_reducible exact LeO.refl _)
      | (with_reducible exact LeO.none _)
      | (with_reducible refine LeO.ite ?_ ?_)
      | (with_reducible refine LeO.bind ?_ (fun _ => ?_))
      | (with_reducible refine allG_mono _ (fun _ => ?_))
      | (with_reducible refine idxG_mono _ (fun _ => ?_))
      | exact ih0 _ _ _ _
      | exact spec_l03Rest.mono _ _ _
      | exact LeO.none _
      | refine LeO.ite ?_ ?_
      | refine LeO.bind ?_ (fun _ => ?_)
theorem spec_l03Balance.mono : ∀ a0 k, LeO (spec_l03Balance.f k a0) (spec_l03Balance.f (k + 1) a0) := by
  intro a0 k
  have ih0 := spec_l03Balance.mono_l k
  unfold spec_l03Balance.f
  repeat' first
      | (with_reducible exact ih0 _ _ _ _)
      | (with_reducible exact spec_l03Rest.mono _ _ _)
      | (with_reducible exact LeO.refl _)
      | (with_reducible exact LeO.none _)
      | (with_reducible refine LeO.ite ?_ ?_)
      | (with_reducible refine LeO.bind ?_ (fun _ => ?_))
      | (with_reducible refine allG_mono _ (fun _ => ?_))
      | (with_reducible refine idxG_mono _ (fun _ => ?_))
      | exact ih0 _ _ _ _
      | exact spec_l03Rest.mono _ _ _
      | exact LeO.none _
      | refine LeO.ite ?_ ?_
      | refine LeO.bind ?_ (fun _ => ?_)
set_option maxHeartbeats 8000000 in
set_option maxRecDepth 100000 in
theorem spec_l03Balance.calls (k : Nat) (A0 : Option Addr) (c0 : Nat) (l0 : List (S33)) (r1 : Int) (r2 : Int) (w : World) (hr0 : Kd.C k33 w A0 l0.length l0) (hc0 : l0.length ≤ c0) (h : spec_l03Balance.f k l0 = some (r1, r2)) :
    Calls Try.prog 29 #[.slice A0 l0.length c0] w fun e w' => e = .returned (.tuple #[.int .i64 r1, .int .i64 r2]) ∧ Drawn0 w w' := by
 have HR0 := Aside0.mk hr0
 have HC0 := Aside0.mk hc0
 clear hr0 hc0
 have H : ((spec_l03Rest.f k l0 0).bind fun t176 => (spec_l03Balance.l0 k l0 0 t176 1)) = some (r1, r2) := h
 clear h
 replace H := Option.bind_eq_some_iff.mp H
 obtain ⟨t176, A20, H⟩ := H
 replace H : (spec_l03Balance.l0 k l0 0 t176 1) = some (r1, r2) := H
 have A2 := Aside0.mk A20
 clear A20
 have H' := Aside0.mk H
 clear H
 go_enter Try.func29, Try.ntmps29
 go_wp2_with (first | ((with_reducible refine gate_callee (f := 30) rfl ?_); refine goesL_ (some 10) rfl rfl Try.func30 (by kernel_rfl) rfl #[.slice A0 l0.length c0, .int .i64 0] rfl zr ?_; (with_reducible refine (spec_l03Rest.calls k _ _ l0 0 t176 _ ?side1 ?side2 A2.out).mono ?_); (case side1 => exact zk HR0.out); (case side2 => exact HC0.out); rintro e w' ⟨rfl, ⟨nd, rfl⟩⟩; refine ⟨_, rfl, ?_⟩))
 go_loopg [4, 5, 6] k (fun kq v4 v5 v6 w' => ∃ (x4_1 : Int) (x5_1 : Int) (x6_1 : Int), v4 = .int .i64 x4_1 ∧ v5 = .int .i64 x5_1 ∧ v6 = .int .i64 x6_1 ∧ Aside0 (spec_l03Balance.l0 kq l0 x4_1 x5_1 x6_1 = some (r1, r2)) ∧ Aside0 (kq ≤ k) ∧ Drawn0 w w')
 case atStart => exact ⟨(0), (t176), (1), zx, zx, zx, H', ⟨Nat.le_refl _⟩, by repeat (first | exact Drawn0.refl _ | apply Drawn0.step)⟩
 case round =>
 clear H'
 try clear c2
 try clear p2
 obtain ⟨x4_1, x5_1, x6_1, rfl, rfl, rfl, HA, HK1, ⟨m1, rfl⟩⟩ := hrel
 cases gk with
 | zero => exact absurd HA.out (by simp [spec_l03Balance.l0])
 | succ k1 =>
  have H := HA.out
  clear HA
  simp only [spec_l03Balance.l0] at H
  by_cases c3 : x6_1 ≤ 2000
  rotate_left
  · rw [if_neg c3] at H
    have c3b0 : decide (x6_1 ≤ 2000) = false := decide_eq_false c3
    clear c3
    simp only [Option.some.injEq, Prod.mk.injEq] at H
    obtain ⟨rfl, rfl⟩ := H
    go_wp2
    go_ret2
    exact ⟨zx, by repeat (first | exact Drawn0.refl _ | apply Drawn0.step)⟩
  rw [if_pos c3] at H
  have c3b0 : decide (x6_1 ≤ 2000) = true := decide_eq_true c3
  clear c3
  replace H := Option.bind_eq_some_iff.mp H
  obtain ⟨t177, A40, H⟩ := H
  replace H : (if t177 < x5_1 then ((spec_l03Rest.f k1 l0 (wrap64 (-x6_1))).bind fun t178 => (if t178 < t177 then (spec_l03Balance.l0 k1 l0 (wrap64 (-x6_1)) t178 (wrap64 (x6_1 + 1))) else (spec_l03Balance.l0 k1 l0 x6_1 t177 (wrap64 (x6_1 + 1))))) else ((spec_l03Rest.f k1 l0 (wrap64 (-x6_1))).bind fun t179 => (if t179 < x5_1 then (spec_l03Balance.l0 k1 l0 (wrap64 (-x6_1)) t179 (wrap64 (x6_1 + 1))) else (spec_l03Balance.l0 k1 l0 x4_1 x5_1 (wrap64 (x6_1 + 1)))))) = some (r1, r2) := H
  have A4 := Aside0.mk A40
  clear A40
  by_cases c5 : t177 < x5_1
  · rw [if_pos c5] at H
    have c5b0 : decide (t177 < x5_1) = true := decide_eq_true c5
    clear c5
    replace H := Option.bind_eq_some_iff.mp H
    obtain ⟨t178, A60, H⟩ := H
    replace H : (if t178 < t177 then (spec_l03Balance.l0 k1 l0 (wrap64 (-x6_1)) t178 (wrap64 (x6_1 + 1))) else (spec_l03Balance.l0 k1 l0 x6_1 t177 (wrap64 (x6_1 + 1)))) = some (r1, r2) := H
    have A6 := Aside0.mk A60
    clear A60
    by_cases c7 : t178 < t177
    · rw [if_pos c7] at H
      have c7b0 : decide (t178 < t177) = true := decide_eq_true c7
      clear c7
      have H' := Aside0.mk H
      clear H
      go_wp2_with (first | ((with_reducible refine gate_callee (f := 30) rfl ?_); refine goesL_ (some 17) rfl rfl Try.func30 (by kernel_rfl) rfl #[.slice A0 l0.length c0, .int .i64 x6_1] rfl zr ?_; (with_reducible refine (spec_l03Rest.calls k1 _ _ l0 x6_1 t177 _ ?side1 ?side2 A4.out).mono ?_); (case side1 => exact zk HR0.out); (case side2 => exact HC0.out); rintro e w' ⟨rfl, ⟨nd, rfl⟩⟩; refine ⟨_, rfl, ?_⟩) | ((with_reducible refine gate_callee (f := 30) rfl ?_); refine goesL_ (some 26) rfl rfl Try.func30 (by kernel_rfl) rfl #[.slice A0 l0.length c0, .int .i64 (wrap64 (-x6_1))] rfl zr ?_; (with_reducible refine (spec_l03Rest.calls k1 _ _ l0 (wrap64 (-x6_1)) t178 _ ?side1 ?side2 A6.out).mono ?_); (case side1 => exact zk HR0.out); (case side2 => exact HC0.out); rintro e w' ⟨rfl, ⟨nd, rfl⟩⟩; refine ⟨_, rfl, ?_⟩))
      go_roundg k1
      case measure => have := HK1.out; omega
      case rel => exact ⟨(wrap64 (-x6_1)), (t178), (wrap64 (x6_1 + 1)), zx, zx, zx, H', ⟨by have := HK1.out; omega⟩, by repeat (first | exact Drawn0.refl _ | apply Drawn0.step)⟩
    rw [if_neg c7] at H
    have c7b0 : decide (t178 < t177) = false := decide_eq_false c7
    clear c7
    have H' := Aside0.mk H
    clear H
    go_wp2_with (first | ((with_reducible refine gate_callee (f := 30) rfl ?_); refine goesL_ (some 17) rfl rfl Try.func30 (by kernel_rfl) rfl #[.slice A0 l0.length c0, .int .i64 x6_1] rfl zr ?_; (with_reducible refine (spec_l03Rest.calls k1 _ _ l0 x6_1 t177 _ ?side1 ?side2 A4.out).mono ?_); (case side1 => exact zk HR0.out); (case side2 => exact HC0.out); rintro e w' ⟨rfl, ⟨nd, rfl⟩⟩; refine ⟨_, rfl, ?_⟩) | ((with_reducible refine gate_callee (f := 30) rfl ?_); refine goesL_ (some 26) rfl rfl Try.func30 (by kernel_rfl) rfl #[.slice A0 l0.length c0, .int .i64 (wrap64 (-x6_1))] rfl zr ?_; (with_reducible refine (spec_l03Rest.calls k1 _ _ l0 (wrap64 (-x6_1)) t178 _ ?side1 ?side2 A6.out).mono ?_); (case side1 => exact zk HR0.out); (case side2 => exact HC0.out); rintro e w' ⟨rfl, ⟨nd, rfl⟩⟩; refine ⟨_, rfl, ?_⟩))
    go_roundg k1
    case measure => have := HK1.out; omega
    case rel => exact ⟨(x6_1), (t177), (wrap64 (x6_1 + 1)), zx, zx, zx, H', ⟨by have := HK1.out; omega⟩, by repeat (first | exact Drawn0.refl _ | apply Drawn0.step)⟩
  rw [if_neg c5] at H
  have c5b0 : decide (t177 < x5_1) = false := decide_eq_false c5
  clear c5
  replace H := Option.bind_eq_some_iff.mp H
  obtain ⟨t179, A80, H⟩ := H
  replace H : (if t179 < x5_1 then (spec_l03Balance.l0 k1 l0 (wrap64 (-x6_1)) t179 (wrap64 (x6_1 + 1))) else (spec_l03Balance.l0 k1 l0 x4_1 x5_1 (wrap64 (x6_1 + 1)))) = some (r1, r2) := H
  have A8 := Aside0.mk A80
  clear A80
  by_cases c9 : t179 < x5_1
  · rw [if_pos c9] at H
    have c9b0 : decide (t179 < x5_1) = true := decide_eq_true c9
    clear c9
    have H' := Aside0.mk H
    clear H
    go_wp2_with (first | ((with_reducible refine gate_callee (f := 30) rfl ?_); refine goesL_ (some 17) rfl rfl Try.func30 (by kernel_rfl) rfl #[.slice A0 l0.length c0, .int .i64 x6_1] rfl zr ?_; (with_reducible refine (spec_l03Rest.calls k1 _ _ l0 x6_1 t177 _ ?side1 ?side2 A4.out).mono ?_); (case side1 => exact zk HR0.out); (case side2 => exact HC0.out); rintro e w' ⟨rfl, ⟨nd, rfl⟩⟩; refine ⟨_, rfl, ?_⟩) | ((with_reducible refine gate_callee (f := 30) rfl ?_); refine goesL_ (some 26) rfl rfl Try.func30 (by kernel_rfl) rfl #[.slice A0 l0.length c0, .int .i64 (wrap64 (-x6_1))] rfl zr ?_; (with_reducible refine (spec_l03Rest.calls k1 _ _ l0 (wrap64 (-x6_1)) t179 _ ?side1 ?side2 A8.out).mono ?_); (case side1 => exact zk HR0.out); (case side2 => exact HC0.out); rintro e w' ⟨rfl, ⟨nd, rfl⟩⟩; refine ⟨_, rfl, ?_⟩))
    go_roundg k1
    case measure => have := HK1.out; omega
    case rel => exact ⟨(wrap64 (-x6_1)), (t179), (wrap64 (x6_1 + 1)), zx, zx, zx, H', ⟨by have := HK1.out; omega⟩, by repeat (first | exact Drawn0.refl _ | apply Drawn0.step)⟩
  rw [if_neg c9] at H
  have c9b0 : decide (t179 < x5_1) = false := decide_eq_false c9
  clear c9
  have H' := Aside0.mk H
  clear H
  go_wp2_with (first | ((with_reducible refine gate_callee (f := 30) rfl ?_); refine goesL_ (some 17) rfl rfl Try.func30 (by kernel_rfl) rfl #[.slice A0 l0.length c0, .int .i64 x6_1] rfl zr ?_; (with_reducible refine (spec_l03Rest.calls k1 _ _ l0 x6_1 t177 _ ?side1 ?side2 A4.out).mono ?_); (case side1 => exact zk HR0.out); (case side2 => exact HC0.out); rintro e w' ⟨rfl, ⟨nd, rfl⟩⟩; refine ⟨_, rfl, ?_⟩) | ((with_reducible refine gate_callee (f := 30) rfl ?_); refine goesL_ (some 26) rfl rfl Try.func30 (by kernel_rfl) rfl #[.slice A0 l0.length c0, .int .i64 (wrap64 (-x6_1))] rfl zr ?_; (with_reducible refine (spec_l03Rest.calls k1 _ _ l0 (wrap64 (-x6_1)) t179 _ ?side1 ?side2 A8.out).mono ?_); (case side1 => exact zk HR0.out); (case side2 => exact HC0.out); rintro e w' ⟨rfl, ⟨nd, rfl⟩⟩; refine ⟨_, rfl, ?_⟩))
  go_roundg k1
  case measure => have := HK1.out; omega
  case rel => exact ⟨(x4_1), (x5_1), (wrap64 (x6_1 + 1)), zx, zx, zx, H', ⟨by have := HK1.out; omega⟩, by repeat (first | exact Drawn0.refl _ | apply Drawn0.step)⟩

/-! ### spec_BalanceTurns: function 8 -/
def spec_BalanceTurns.f (k : Nat) (l0 : List (S33)) : Option (Int × Int × Int) := (spec_l03Plies.f k l0 0).bind fun t180 => (if t180 = 0 then ((spec_l03Balance.f k l0).bind fun bt181 => (some (bt181.1, bt181.2, 0))) else (some (0, 0, t180)))
theorem spec_BalanceTurns.mono : ∀ a0 k, LeO (spec_BalanceTurns.f k a0) (spec_BalanceTurns.f (k + 1) a0) := by
  intro a0 k
  unfold spec_BalanceTurns.f
  repeat' first
      | (with_reducible exact spec_l03Balance.mono _ _)
      | (with_reducible exact spec_l03Plies.mono _ _ _)
      | (with_reducible exact LeO.refl _)
      | (with_reducible exact LeO.none _)
      | (with_reducible refine LeO.ite ?_ ?_)
      | (with_reducible refine LeO.bind ?_ (fun _ => ?_))
      | (with_reducible refine allG_mono _ (fun _ => ?_))
      | (with_reducible refine idxG_mono _ (fun _ => ?_))
      | exact spec_l03Balance.mono _ _
      | exact spec_l03Plies.mono _ _ _
      | exact LeO.none _
      | refine LeO.ite ?_ ?_
      | refine LeO.bind ?_ (fun _ => ?_)
set_option maxHeartbeats 8000000 in
set_option maxRecDepth 100000 in
theorem spec_BalanceTurns.calls (k : Nat) (A0 : Option Addr) (c0 : Nat) (l0 : List (S33)) (r1 : Int) (r2 : Int) (r3 : Int) (w : World) (hr0 : Kd.C k33 w A0 l0.length l0) (hc0 : l0.length ≤ c0) (h : spec_BalanceTurns.f k l0 = some (r1, r2, r3)) :
    Calls Try.prog 8 #[.slice A0 l0.length c0] w fun e w' => e = .returned (.tuple #[.int .i64 r1, .int .i64 r2, .int .i64 r3]) ∧ Below w.heap.size w w' := by
 have HR0 := Aside0.mk hr0
 have HC0 := Aside0.mk hc0
 clear hr0 hc0
 have HB := Aside0.mk (Below.refl w.heap.size w)
 have H : ((spec_l03Plies.f k l0 0).bind fun t180 => (if t180 = 0 then ((spec_l03Balance.f k l0).bind fun bt181 => (some (bt181.1, bt181.2, 0))) else (some (0, 0, t180)))) = some (r1, r2, r3) := h
 clear h
 replace H := Option.bind_eq_some_iff.mp H
 obtain ⟨t180, A20, H⟩ := H
 replace H : (if t180 = 0 then ((spec_l03Balance.f k l0).bind fun bt181 => (some (bt181.1, bt181.2, 0))) else (some (0, 0, t180))) = some (r1, r2, r3) := H
 have A2 := Aside0.mk A20
 clear A20
 by_cases c3 : t180 = 0
 rotate_left
 · rw [if_neg c3] at H
   have c3b0 : (t180 == 0) = false := beq_eq_false_iff_ne.mpr c3
   have c3b1 : (t180 != 0) = true := bne_iff_ne.mpr c3
   simp only [Option.some.injEq, Prod.mk.injEq] at H
   obtain ⟨rfl, rfl, rfl⟩ := H
   go_enter Try.func8, Try.ntmps8
   go_wp2_with (first | ((with_reducible refine gate_callee (f := 28) rfl ?_); refine goesL_ (some 9) rfl rfl Try.func28 (by kernel_rfl) rfl #[.slice A0 l0.length c0, .int .i64 0] rfl zr ?_; (with_reducible refine (spec_l03Plies.calls k _ _ l0 0 t180 _ ?side1 ?side2 A2.out).mono ?_); (case side1 => exact zk HR0.out); (case side2 => exact HC0.out); rintro e w6 ⟨rfl, hb⟩; refine ⟨_, rfl, ?_⟩; refine up1 (below_step (zb HB.out) hb) ?_; clear HB; intro HB; (try clear hb); (try clear hb2); (try clear hk); (try clear hi)))
   go_ret3
   exact ⟨zs, zb HB.out⟩
 rw [if_pos c3] at H
 have c3b0 : (t180 == 0) = true := beq_iff_eq.mpr c3
 have c3b1 : (t180 != 0) = false := bne_eq_false_iff_eq.mpr c3
 clear c3
 replace H := Option.bind_eq_some_iff.mp H
 obtain ⟨⟨t181, t182⟩, A40, H⟩ := H
 replace H : (some (t181, t182, 0)) = some (r1, r2, r3) := H
 have A4 := Aside0.mk A40
 clear A40
 simp only [Option.some.injEq, Prod.mk.injEq] at H
 obtain ⟨rfl, rfl, rfl⟩ := H
 go_enter Try.func8, Try.ntmps8
 go_wp2_with (first | ((with_reducible refine gate_callee (f := 28) rfl ?_); refine goesL_ (some 9) rfl rfl Try.func28 (by kernel_rfl) rfl #[.slice A0 l0.length c0, .int .i64 0] rfl zr ?_; (with_reducible refine (spec_l03Plies.calls k _ _ l0 0 t180 _ ?side1 ?side2 A2.out).mono ?_); (case side1 => exact zk HR0.out); (case side2 => exact HC0.out); rintro e w5 ⟨rfl, hb⟩; refine ⟨_, rfl, ?_⟩; refine up1 (below_step (zb HB.out) hb) ?_; clear HB; intro HB; (try clear hb); (try clear hb2); (try clear hk); (try clear hi)) | ((with_reducible refine gate_callee (f := 29) rfl ?_); refine goesL_ (some 15) rfl rfl Try.func29 (by kernel_rfl) rfl #[.slice A0 l0.length c0] rfl zr ?_; (with_reducible refine (spec_l03Balance.calls k _ _ l0 t181 t182 _ ?side1 ?side2 A4.out).mono ?_); (case side1 => exact zk (Kd.C_below HR0.out HB.out)); (case side2 => exact HC0.out); rintro e w' ⟨rfl, ⟨nd, rfl⟩⟩; refine ⟨_, rfl, ?_⟩))
 go_ret3
 exact ⟨zs, zb HB.out⟩

/-! ### impl_RestOf: function 9 -/
def impl_RestOf.f (k : Nat) (l0 : List (S33)) (a1 : Int) : Option (Int × Int) := (impl_pliesCode.f l0 a1).bind fun t183 => (if t183 = 0 then ((impl_rest.f k l0 a1).bind fun t184 => (some (t184, 0))) else (some (0, t183)))
theorem impl_RestOf.mono : ∀ a0 a1 k, LeO (impl_RestOf.f k a0 a1) (impl_RestOf.f (k + 1) a0 a1) := by
  intro a0 a1 k
  unfold impl_RestOf.f
  repeat' first
      | (with_reducible exact impl_rest.mono _ _ _)
      | (with_reducible exact LeO.refl _)
      | (with_reducible exact LeO.none _)
      | (with_reducible refine LeO.ite ?_ ?_)
      | (with_reducible refine LeO.bind ?_ (fun _ => ?_))
      | (with_reducible refine allG_mono _ (fun _ => ?_))
      | (with_reducible refine idxG_mono _ (fun _ => ?_))
      | exact impl_rest.mono _ _ _
      | exact LeO.none _
      | refine LeO.ite ?_ ?_
      | refine LeO.bind ?_ (fun _ => ?_)
set_option maxHeartbeats 8000000 in
set_option maxRecDepth 100000 in
theorem impl_RestOf.calls (k : Nat) (A0 : Option Addr) (c0 : Nat) (l0 : List (S33)) (a1 : Int) (r1 : Int) (r2 : Int) (w : World) (hr0 : Kd.C k33 w A0 l0.length l0) (hc0 : l0.length ≤ c0) (h : impl_RestOf.f k l0 a1 = some (r1, r2)) :
    Calls Try.prog 9 #[.slice A0 l0.length c0, .int .i64 a1] w fun e w' => e = .returned (.tuple #[.int .i64 r1, .int .i64 r2]) ∧ Below w.heap.size w w' := by
 have HR0 := Aside0.mk hr0
 have HC0 := Aside0.mk hc0
 clear hr0 hc0
 have HB := Aside0.mk (Below.refl w.heap.size w)
 have H : ((impl_pliesCode.f l0 a1).bind fun t183 => (if t183 = 0 then ((impl_rest.f k l0 a1).bind fun t184 => (some (t184, 0))) else (some (0, t183)))) = some (r1, r2) := h
 clear h
 replace H := Option.bind_eq_some_iff.mp H
 obtain ⟨t183, A30, H⟩ := H
 replace H : (if t183 = 0 then ((impl_rest.f k l0 a1).bind fun t184 => (some (t184, 0))) else (some (0, t183))) = some (r1, r2) := H
 have A3 := Aside0.mk A30
 clear A30
 by_cases c4 : t183 = 0
 rotate_left
 · rw [if_neg c4] at H
   have c4b0 : (t183 == 0) = false := beq_eq_false_iff_ne.mpr c4
   have c4b1 : (t183 != 0) = true := bne_iff_ne.mpr c4
   simp only [Option.some.injEq, Prod.mk.injEq] at H
   obtain ⟨rfl, rfl⟩ := H
   go_enter Try.func9, Try.ntmps9
   go_wp2_with (first | ((with_reducible refine gate_callee (f := 26) rfl ?_); refine goesL_ (some 9) rfl rfl Try.func26 (by kernel_rfl) rfl #[.slice A0 l0.length c0, .int .i64 a1] rfl zr ?_; (with_reducible refine (impl_pliesCode.calls _ _ l0 a1 t183 _ ?side1 ?side2 A3.out).mono ?_); (case side1 => exact zk HR0.out); (case side2 => exact HC0.out); rintro e w8 ⟨rfl, hb⟩; refine ⟨_, rfl, ?_⟩; refine up1 (below_step (zb HB.out) hb) ?_; clear HB; intro HB; (try clear hb); (try clear hb2); (try clear hk); (try clear hi)))
   go_ret2
   exact ⟨zs, zb HB.out⟩
 rw [if_pos c4] at H
 have c4b0 : (t183 == 0) = true := beq_iff_eq.mpr c4
 have c4b1 : (t183 != 0) = false := bne_eq_false_iff_eq.mpr c4
 clear c4
 replace H := Option.bind_eq_some_iff.mp H
 obtain ⟨t184, A50, H⟩ := H
 replace H : (some (t184, 0)) = some (r1, r2) := H
 have A5 := Aside0.mk A50
 clear A50
 simp only [Option.some.injEq, Prod.mk.injEq] at H
 obtain ⟨rfl, rfl⟩ := H
 go_enter Try.func9, Try.ntmps9
 go_wp2_with (first | ((with_reducible refine gate_callee (f := 26) rfl ?_); refine goesL_ (some 9) rfl rfl Try.func26 (by kernel_rfl) rfl #[.slice A0 l0.length c0, .int .i64 a1] rfl zr ?_; (with_reducible refine (impl_pliesCode.calls _ _ l0 a1 t183 _ ?side1 ?side2 A3.out).mono ?_); (case side1 => exact zk HR0.out); (case side2 => exact HC0.out); rintro e w6 ⟨rfl, hb⟩; refine ⟨_, rfl, ?_⟩; refine up1 (below_step (zb HB.out) hb) ?_; clear HB; intro HB; (try clear hb); (try clear hb2); (try clear hk); (try clear hi)) | ((with_reducible refine gate_callee (f := 27) rfl ?_); refine goesL_ (some 15) rfl rfl Try.func27 (by kernel_rfl) rfl #[.slice A0 l0.length c0, .int .i64 a1] rfl zr ?_; (with_reducible refine (impl_rest.calls k _ _ l0 a1 t184 _ ?side1 ?side2 A5.out).mono ?_); (case side1 => exact zk (Kd.C_below HR0.out HB.out)); (case side2 => exact HC0.out); rintro e w7 ⟨rfl, hb⟩; refine ⟨_, rfl, ?_⟩; refine up1 (below_step (zb HB.out) hb) ?_; clear HB; intro HB; (try clear hb); (try clear hb2); (try clear hk); (try clear hi)))
 go_ret2
 exact ⟨zs, zb HB.out⟩

/-! ### spec_RestOf: function 10 -/
def spec_RestOf.f (k : Nat) (l0 : List (S33)) (a1 : Int) : Option (Int × Int) := (spec_l03Plies.f k l0 a1).bind fun t185 => (if t185 = 0 then ((spec_l03Rest.f k l0 a1).bind fun t186 => (some (t186, 0))) else (some (0, t185)))
theorem spec_RestOf.mono : ∀ a0 a1 k, LeO (spec_RestOf.f k a0 a1) (spec_RestOf.f (k + 1) a0 a1) := by
  intro a0 a1 k
  unfold spec_RestOf.f
  repeat' first
      | (with_reducible exact spec_l03Plies.mono _ _ _)
      | (with_reducible exact spec_l03Rest.mono _ _ _)
      | (with_reducible exact LeO.refl _)
      | (with_reducible exact LeO.none _)
      | (with_reducible refine LeO.ite ?_ ?_)
      | (with_reducible refine LeO.bind ?_ (fun _ => ?_))
      | (with_reducible refine allG_mono _ (fun _ => ?_))
      | (with_reducible refine idxG_mono _ (fun _ => ?_))
      | exact spec_l03Plies.mono _ _ _
      | exact spec_l03Rest.mono _ _ _
      | exact LeO.none _
      | refine LeO.ite ?_ ?_
      | refine LeO.bind ?_ (fun _ => ?_)
set_option maxHeartbeats 8000000 in
set_option maxRecDepth 100000 in
theorem spec_RestOf.calls (k : Nat) (A0 : Option Addr) (c0 : Nat) (l0 : List (S33)) (a1 : Int) (r1 : Int) (r2 : Int) (w : World) (hr0 : Kd.C k33 w A0 l0.length l0) (hc0 : l0.length ≤ c0) (h : spec_RestOf.f k l0 a1 = some (r1, r2)) :
    Calls Try.prog 10 #[.slice A0 l0.length c0, .int .i64 a1] w fun e w' => e = .returned (.tuple #[.int .i64 r1, .int .i64 r2]) ∧ Below w.heap.size w w' := by
 have HR0 := Aside0.mk hr0
 have HC0 := Aside0.mk hc0
 clear hr0 hc0
 have HB := Aside0.mk (Below.refl w.heap.size w)
 have H : ((spec_l03Plies.f k l0 a1).bind fun t185 => (if t185 = 0 then ((spec_l03Rest.f k l0 a1).bind fun t186 => (some (t186, 0))) else (some (0, t185)))) = some (r1, r2) := h
 clear h
 replace H := Option.bind_eq_some_iff.mp H
 obtain ⟨t185, A30, H⟩ := H
 replace H : (if t185 = 0 then ((spec_l03Rest.f k l0 a1).bind fun t186 => (some (t186, 0))) else (some (0, t185))) = some (r1, r2) := H
 have A3 := Aside0.mk A30
 clear A30
 by_cases c4 : t185 = 0
 rotate_left
 · rw [if_neg c4] at H
   have c4b0 : (t185 == 0) = false := beq_eq_false_iff_ne.mpr c4
   have c4b1 : (t185 != 0) = true := bne_iff_ne.mpr c4
   simp only [Option.some.injEq, Prod.mk.injEq] at H
   obtain ⟨rfl, rfl⟩ := H
   go_enter Try.func10, Try.ntmps10
   go_wp2_with (first | ((with_reducible refine gate_callee (f := 28) rfl ?_); refine goesL_ (some 9) rfl rfl Try.func28 (by kernel_rfl) rfl #[.slice A0 l0.length c0, .int .i64 a1] rfl zr ?_; (with_reducible refine (spec_l03Plies.calls k _ _ l0 a1 t185 _ ?side1 ?side2 A3.out).mono ?_); (case side1 => exact zk HR0.out); (case side2 => exact HC0.out); rintro e w7 ⟨rfl, hb⟩; refine ⟨_, rfl, ?_⟩; refine up1 (below_step (zb HB.out) hb) ?_; clear HB; intro HB; (try clear hb); (try clear hb2); (try clear hk); (try clear hi)))
   go_ret2
   exact ⟨zs, zb HB.out⟩
 rw [if_pos c4] at H
 have c4b0 : (t185 == 0) = true := beq_iff_eq.mpr c4
 have c4b1 : (t185 != 0) = false := bne_eq_false_iff_eq.mpr c4
 clear c4
 replace H := Option.bind_eq_some_iff.mp H
 obtain ⟨t186, A50, H⟩ := H
 replace H : (some (t186, 0)) = some (r1, r2) := H
 have A5 := Aside0.mk A50
 clear A50
 simp only [Option.some.injEq, Prod.mk.injEq] at H
 obtain ⟨rfl, rfl⟩ := H
 go_enter Try.func10, Try.ntmps10
 go_wp2_with (first | ((with_reducible refine gate_callee (f := 28) rfl ?_); refine goesL_ (some 9) rfl rfl Try.func28 (by kernel_rfl) rfl #[.slice A0 l0.length c0, .int .i64 a1] rfl zr ?_; (with_reducible refine (spec_l03Plies.calls k _ _ l0 a1 t185 _ ?side1 ?side2 A3.out).mono ?_); (case side1 => exact zk HR0.out); (case side2 => exact HC0.out); rintro e w6 ⟨rfl, hb⟩; refine ⟨_, rfl, ?_⟩; refine up1 (below_step (zb HB.out) hb) ?_; clear HB; intro HB; (try clear hb); (try clear hb2); (try clear hk); (try clear hi)) | ((with_reducible refine gate_callee (f := 30) rfl ?_); refine goesL_ (some 15) rfl rfl Try.func30 (by kernel_rfl) rfl #[.slice A0 l0.length c0, .int .i64 a1] rfl zr ?_; (with_reducible refine (spec_l03Rest.calls k _ _ l0 a1 t186 _ ?side1 ?side2 A5.out).mono ?_); (case side1 => exact zk (Kd.C_below HR0.out HB.out)); (case side2 => exact HC0.out); rintro e w' ⟨rfl, ⟨nd, rfl⟩⟩; refine ⟨_, rfl, ?_⟩))
 go_ret2
 exact ⟨zs, zb HB.out⟩

/-! ### impl_plyLong: function 31 -/
def impl_plyLong.l0 : Nat → Int → Int → List (S33) → Int → Int → Option (Int)
  | 0, _, _, _, _, _ => none
  | k + 1, x1, x5, x8, x9, x10 => if x10 < x9 then (if 0 ≤ x10 then (if x10 < (x8.length : Int) then (impl_plyLong.l0 k x1 (mn x5 (wrap64 ((rd_T33 x8 x10).f0))) x8 x9 (wrap64 (x10 + 1))) else (none)) else (none)) else ((impl_size.f x1).bind fun t189 => (some (wrap64 (x5 - (wrap64 (Int.tdiv t189 50))))))
def impl_plyLong.f (k : Nat) (l0 : List (S33)) (a1 : Int) : Option (Int) := impl_plyLong.l0 k a1 5000 l0 (l0.length : Int) 0
theorem impl_plyLong.mono_l : ∀ k, (∀ y0 y1 y2 y3 y4, LeO (impl_plyLong.l0 k y0 y1 y2 y3 y4) (impl_plyLong.l0 (k + 1) y0 y1 y2 y3 y4))
  | 0 => fun _ _ _ _ _ r h => by simp [impl_plyLong.l0] at h
  | k + 1 => by
    have ih0 := impl_plyLong.mono_l k
    · intro y0 y1 y2 y3 y4
      unfold impl_plyLong.l0
      repeat' first
      | (with_reducible exact ih0 _ _ _ _ _)
      | (with_reducible exact LeO.refl _)
      | (with_reducible exact LeO.none _)
      | (with_reducible refine LeO.ite ?_ ?_)
      | (with_reducible refine LeO.bind ?_ (fun _ => ?_))
      | (with_reducible refine allG_mono _ (fun _ => ?_))
      | (with_reducible refine idxG_mono _ (fun _ => ?_))
      | exact ih0 _ _ _ _ _
      | exact LeO.none _
      | refine LeO.ite ?_ ?_
      | refine LeO.bind ?_ (fun _ => ?_)
theorem impl_plyLong.mono : ∀ a0 a1 k, LeO (impl_plyLong.f k a0 a1) (impl_plyLong.f (k + 1) a0 a1) := by
  intro a0 a1 k
  have ih0 := impl_plyLong.mono_l k
  unfold impl_plyLong.f
  repeat' first
      | (with_reducible exact ih0 _ _ _ _ _)
      | (with_reducible exact LeO.refl _)
      | (with_reducible exact LeO.none _)
      | (with_reducible refine LeO.ite ?_ ?_)
      | (with_reducible refine LeO.bind ?_ (fun _ => ?_))
      | (with_reducible refine allG_mono _ (fun _ => ?_))
      | (with_reducible refine idxG_mono _ (fun _ => ?_))
      | exact ih0 _ _ _ _ _
      | exact LeO.none _
      | refine LeO.ite ?_ ?_
      | refine LeO.bind ?_ (fun _ => ?_)
set_option maxHeartbeats 8000000 in
set_option maxRecDepth 100000 in
theorem impl_plyLong.calls (k : Nat) (A0 : Option Addr) (c0 : Nat) (l0 : List (S33)) (a1 : Int) (r : Int) (w : World) (hr0 : Kd.C k33 w A0 l0.length l0) (hc0 : l0.length ≤ c0) (h : impl_plyLong.f k l0 a1 = some r) :
    Calls Try.prog 31 #[.slice A0 l0.length c0, .int .i64 a1] w fun e w' => e = .returned (.int .i64 r) ∧ Below w.heap.size w w' := by
 have hu33 := Try.underlying33
 have HR0 := Aside0.mk hr0
 have HC0 := Aside0.mk hc0
 clear hr0 hc0
 have HB := Aside0.mk (Below.refl w.heap.size w)
 have H : (impl_plyLong.l0 k a1 5000 l0 (l0.length : Int) 0) = some r := h
 clear h
 have H' := Aside0.mk H
 clear H
 go_enter Try.func31, Try.ntmps31
 go_wp2
 go_loopg [5, 10] k (fun kq v5 v10 w' => ∃ (x5_1 : Int) (x10_1 : Int), v5 = .int .i64 x5_1 ∧ v10 = .int .i64 x10_1 ∧ Aside0 (impl_plyLong.l0 kq a1 x5_1 l0 (l0.length : Int) x10_1 = some r) ∧ Aside0 (kq ≤ k) ∧ Aside0 (Below w.heap.size w w'))
 case atStart => exact ⟨(5000), (0), zx, zx, H', ⟨Nat.le_refl _⟩, ⟨zb HB.out⟩⟩
 case round =>
 clear H'
 try clear p2
 obtain ⟨x5_1, x10_1, rfl, rfl, HA, HK1, HB⟩ := hrel
 cases gk with
 | zero => exact absurd HA.out (by simp [impl_plyLong.l0])
 | succ k1 =>
  have H := HA.out
  clear HA
  simp only [impl_plyLong.l0] at H
  by_cases c3 : x10_1 < (l0.length : Int)
  rotate_left
  · rw [if_neg c3] at H
    have c3b0 : decide (x10_1 < (l0.length : Int)) = false := decide_eq_false c3
    clear c3
    replace H := Option.bind_eq_some_iff.mp H
    obtain ⟨t189, A90, H⟩ := H
    replace H : (some (wrap64 (x5_1 - (wrap64 (Int.tdiv t189 50))))) = some r := H
    have A9 := Aside0.mk A90
    clear A90
    obtain rfl := Option.some.inj H
    go_wp2_with (first | ((with_reducible refine gate_callee (f := 40) rfl ?_); refine goesL_ (some 22) rfl rfl Try.func40 (by kernel_rfl) rfl #[.int .i64 a1] rfl zr ?_; (with_reducible refine (impl_size.calls a1 t189 _ A9.out).mono ?_); rintro e w10 ⟨rfl, hb⟩; refine ⟨_, rfl, ?_⟩; refine up1 (below_step (zb HB.out) hb) ?_; clear HB; intro HB; (try clear hb); (try clear hb2); (try clear hk); (try clear hi)))
    go_ret
    exact ⟨zs, zb HB.out⟩
  rw [if_pos c3] at H
  have c3b0 : decide (x10_1 < (l0.length : Int)) = true := decide_eq_true c3
  clear c3
  by_cases c4 : 0 ≤ x10_1
  rotate_left
  · rw [if_neg c4] at H
    exact absurd H (by simp)
  rw [if_pos c4] at H
  have c4b0 : decide (0 ≤ x10_1) = true := decide_eq_true c4
  clear c4
  by_cases c5 : x10_1 < (l0.length : Int)
  rotate_left
  · rw [if_neg c5] at H
    exact absurd H (by simp)
  rw [if_pos c5] at H
  have c5b0 : decide (x10_1 < (l0.length : Int)) = true := decide_eq_true c5
  clear c5
  obtain ⟨ji6, hji6⟩ : ∃ j_ : Int, (mn x5_1 (wrap64 ((rd_T33 l0 x10_1).f0))) = j_ := ⟨_, rfl⟩
  replace H : (impl_plyLong.l0 k1 a1 ji6 l0 (l0.length : Int) (wrap64 (x10_1 + 1))) = some r := by first | (rw [hji6] at H; exact H) | (simp only [hji6] at H ⊢; exact H)
  have hji6_ : (if (wrap64 ((rd_T33 l0 x10_1).f0)) < x5_1 then (wrap64 ((rd_T33 l0 x10_1).f0)) else x5_1) = ji6 := hji6
  have H' := Aside0.mk H
  clear H
  have p187 : 0 ≤ (x10_1 : Int) := zd
  have q187 : x10_1 < (l0.length : Int) := zd
  obtain ⟨ad187, e187, hx187_0, hx187_1, hx187_2⟩ := at_T33 HR0.out x10_1 p187 q187
  cases e187
  replace hx187_0 := zc HB.out hx187_0
  replace hx187_1 := zc HB.out hx187_1
  replace hx187_2 := zc HB.out hx187_2
  replace p187 := eq_true p187
  replace q187 := eq_true q187
  go_wp2_with (first | ((with_reducible refine gate_dst (N := 7) rfl ?_); refine box_event ?hg (N := 7) ?hd (cs := #[.int .i16 0, .int .i16 0, .int .i16 0]) (t := 33) ?hr ?_; (case hd => rfl); (case hg => rfl); (case hr => first | (go_simp; done) | (go_simp; rfl)); intro gb188 hg w7 hbox hb; refine up4 (below_step (zb HB.out) hb) (hbox) ((by rw [hg]; exact (below_size (zb HB.out)) : w.heap.size ≤ gb188)) ((by rw [hg]; exact (below_size (zb HB.out)) : w.heap.size ≤ gb188)) ?_; clear HB; intro HB BK188 GW188 GE188; clear hb hbox hg; have hcz8_0 : w7.cell? ⟨gb188, 0, none⟩ = some (.int .i16 0) := (blk_cell BK188.out 0).trans rfl; have hcz8_1 : w7.cell? ⟨gb188, 1, none⟩ = some (.int .i16 0) := (blk_cell BK188.out 1).trans rfl; have hcz8_2 : w7.cell? ⟨gb188, 2, none⟩ = some (.int .i16 0) := (blk_cell BK188.out 2).trans rfl; have hfz8_0 := blk_frozen BK188.out 0; have hfz8_1 := blk_frozen BK188.out 1; have hfz8_2 := blk_frozen BK188.out 2))
  go_roundg k1
  case measure => have := HK1.out; omega
  case rel => exact ⟨(ji6), (wrap64 (x10_1 + 1)), (by first | rfl | (simp; done) | (simp only [← hji6] <;> (first | rfl | simp)) | (simp [*]; done)), zx, H', ⟨by have := HK1.out; omega⟩, ⟨zb1 HB.out GE188.out⟩⟩

/-! ### impl_PlyLong: function 11 -/
def impl_PlyLong.f (k : Nat) (l0 : List (S33)) (a1 : Int) : Option (Int × Int) := (impl_pliesCode.f l0 a1).bind fun t190 => (if t190 = 0 then ((impl_plyLong.f k l0 a1).bind fun t191 => (if t191 < 1 then (some (0, 6)) else (some (t191, 0)))) else (some (0, t190)))
theorem impl_PlyLong.mono : ∀ a0 a1 k, LeO (impl_PlyLong.f k a0 a1) (impl_PlyLong.f (k + 1) a0 a1) := by
  intro a0 a1 k
  unfold impl_PlyLong.f
  repeat' first
      | (with_reducible exact impl_plyLong.mono _ _ _)
      | (with_reducible exact LeO.refl _)
      | (with_reducible exact LeO.none _)
      | (with_reducible refine LeO.ite ?_ ?_)
      | (with_reducible refine LeO.bind ?_ (fun _ => ?_))
      | (with_reducible refine allG_mono _ (fun _ => ?_))
      | (with_reducible refine idxG_mono _ (fun _ => ?_))
      | exact impl_plyLong.mono _ _ _
      | exact LeO.none _
      | refine LeO.ite ?_ ?_
      | refine LeO.bind ?_ (fun _ => ?_)
set_option maxHeartbeats 8000000 in
set_option maxRecDepth 100000 in
theorem impl_PlyLong.calls (k : Nat) (A0 : Option Addr) (c0 : Nat) (l0 : List (S33)) (a1 : Int) (r1 : Int) (r2 : Int) (w : World) (hr0 : Kd.C k33 w A0 l0.length l0) (hc0 : l0.length ≤ c0) (h : impl_PlyLong.f k l0 a1 = some (r1, r2)) :
    Calls Try.prog 11 #[.slice A0 l0.length c0, .int .i64 a1] w fun e w' => e = .returned (.tuple #[.int .i64 r1, .int .i64 r2]) ∧ Below w.heap.size w w' := by
 have HR0 := Aside0.mk hr0
 have HC0 := Aside0.mk hc0
 clear hr0 hc0
 have HB := Aside0.mk (Below.refl w.heap.size w)
 have H : ((impl_pliesCode.f l0 a1).bind fun t190 => (if t190 = 0 then ((impl_plyLong.f k l0 a1).bind fun t191 => (if t191 < 1 then (some (0, 6)) else (some (t191, 0)))) else (some (0, t190)))) = some (r1, r2) := h
 clear h
 replace H := Option.bind_eq_some_iff.mp H
 obtain ⟨t190, A30, H⟩ := H
 replace H : (if t190 = 0 then ((impl_plyLong.f k l0 a1).bind fun t191 => (if t191 < 1 then (some (0, 6)) else (some (t191, 0)))) else (some (0, t190))) = some (r1, r2) := H
 have A3 := Aside0.mk A30
 clear A30
 by_cases c4 : t190 = 0
 rotate_left
 · rw [if_neg c4] at H
   have c4b0 : (t190 == 0) = false := beq_eq_false_iff_ne.mpr c4
   have c4b1 : (t190 != 0) = true := bne_iff_ne.mpr c4
   simp only [Option.some.injEq, Prod.mk.injEq] at H
   obtain ⟨rfl, rfl⟩ := H
   go_enter Try.func11, Try.ntmps11
   go_wp2_with (first | ((with_reducible refine gate_callee (f := 26) rfl ?_); refine goesL_ (some 10) rfl rfl Try.func26 (by kernel_rfl) rfl #[.slice A0 l0.length c0, .int .i64 a1] rfl zr ?_; (with_reducible refine (impl_pliesCode.calls _ _ l0 a1 t190 _ ?side1 ?side2 A3.out).mono ?_); (case side1 => exact zk HR0.out); (case side2 => exact HC0.out); rintro e w11 ⟨rfl, hb⟩; refine ⟨_, rfl, ?_⟩; refine up1 (below_step (zb HB.out) hb) ?_; clear HB; intro HB; (try clear hb); (try clear hb2); (try clear hk); (try clear hi)))
   go_ret2
   exact ⟨zs, zb HB.out⟩
 rw [if_pos c4] at H
 have c4b0 : (t190 == 0) = true := beq_iff_eq.mpr c4
 have c4b1 : (t190 != 0) = false := bne_eq_false_iff_eq.mpr c4
 clear c4
 replace H := Option.bind_eq_some_iff.mp H
 obtain ⟨t191, A50, H⟩ := H
 replace H : (if t191 < 1 then (some (0, 6)) else (some (t191, 0))) = some (r1, r2) := H
 have A5 := Aside0.mk A50
 clear A50
 by_cases c6 : t191 < 1
 · rw [if_pos c6] at H
   have c6b0 : decide (t191 < 1) = true := decide_eq_true c6
   clear c6
   simp only [Option.some.injEq, Prod.mk.injEq] at H
   obtain ⟨rfl, rfl⟩ := H
   go_enter Try.func11, Try.ntmps11
   go_wp2_with (first | ((with_reducible refine gate_callee (f := 26) rfl ?_); refine goesL_ (some 10) rfl rfl Try.func26 (by kernel_rfl) rfl #[.slice A0 l0.length c0, .int .i64 a1] rfl zr ?_; (with_reducible refine (impl_pliesCode.calls _ _ l0 a1 t190 _ ?side1 ?side2 A3.out).mono ?_); (case side1 => exact zk HR0.out); (case side2 => exact HC0.out); rintro e w7 ⟨rfl, hb⟩; refine ⟨_, rfl, ?_⟩; refine up1 (below_step (zb HB.out) hb) ?_; clear HB; intro HB; (try clear hb); (try clear hb2); (try clear hk); (try clear hi)) | ((with_reducible refine gate_callee (f := 31) rfl ?_); refine goesL_ (some 16) rfl rfl Try.func31 (by kernel_rfl) rfl #[.slice A0 l0.length c0, .int .i64 a1] rfl zr ?_; (with_reducible refine (impl_plyLong.calls k _ _ l0 a1 t191 _ ?side1 ?side2 A5.out).mono ?_); (case side1 => exact zk (Kd.C_below HR0.out HB.out)); (case side2 => exact HC0.out); rintro e w8 ⟨rfl, hb⟩; refine ⟨_, rfl, ?_⟩; refine up1 (below_step (zb HB.out) hb) ?_; clear HB; intro HB; (try clear hb); (try clear hb2); (try clear hk); (try clear hi)))
   go_ret2
   exact ⟨zs, zb HB.out⟩
 rw [if_neg c6] at H
 have c6b0 : decide (t191 < 1) = false := decide_eq_false c6
 clear c6
 simp only [Option.some.injEq, Prod.mk.injEq] at H
 obtain ⟨rfl, rfl⟩ := H
 go_enter Try.func11, Try.ntmps11
 go_wp2_with (first | ((with_reducible refine gate_callee (f := 26) rfl ?_); refine goesL_ (some 10) rfl rfl Try.func26 (by kernel_rfl) rfl #[.slice A0 l0.length c0, .int .i64 a1] rfl zr ?_; (with_reducible refine (impl_pliesCode.calls _ _ l0 a1 t190 _ ?side1 ?side2 A3.out).mono ?_); (case side1 => exact zk HR0.out); (case side2 => exact HC0.out); rintro e w9 ⟨rfl, hb⟩; refine ⟨_, rfl, ?_⟩; refine up1 (below_step (zb HB.out) hb) ?_; clear HB; intro HB; (try clear hb); (try clear hb2); (try clear hk); (try clear hi)) | ((with_reducible refine gate_callee (f := 31) rfl ?_); refine goesL_ (some 16) rfl rfl Try.func31 (by kernel_rfl) rfl #[.slice A0 l0.length c0, .int .i64 a1] rfl zr ?_; (with_reducible refine (impl_plyLong.calls k _ _ l0 a1 t191 _ ?side1 ?side2 A5.out).mono ?_); (case side1 => exact zk (Kd.C_below HR0.out HB.out)); (case side2 => exact HC0.out); rintro e w10 ⟨rfl, hb⟩; refine ⟨_, rfl, ?_⟩; refine up1 (below_step (zb HB.out) hb) ?_; clear HB; intro HB; (try clear hb); (try clear hb2); (try clear hk); (try clear hi)))
 go_ret2
 exact ⟨zs, zb HB.out⟩

/-! ### spec_l00Min: function 56 -/
def spec_l00Min.f (a0 : Int) (a1 : Int) : Option (Int) := if a0 < a1 then (some a0) else (some a1)
set_option maxHeartbeats 8000000 in
set_option maxRecDepth 100000 in
theorem spec_l00Min.calls (a0 : Int) (a1 : Int) (r : Int) (w : World) (h : spec_l00Min.f a0 a1 = some r) :
    Calls Try.prog 56 #[.int .i64 a0, .int .i64 a1] w fun e w' => e = .returned (.int .i64 r) ∧ Drawn0 w w' := by
 have H : (if a0 < a1 then (some a0) else (some a1)) = some r := h
 clear h
 by_cases c3 : a0 < a1
 · rw [if_pos c3] at H
   have c3b0 : decide (a0 < a1) = true := decide_eq_true c3
   clear c3
   obtain rfl := Option.some.inj H
   go_enter Try.func56, Try.ntmps56
   go_wp2
   go_ret
   exact ⟨zx, by repeat (first | exact Drawn0.refl _ | apply Drawn0.step)⟩
 rw [if_neg c3] at H
 have c3b0 : decide (a0 < a1) = false := decide_eq_false c3
 clear c3
 obtain rfl := Option.some.inj H
 go_enter Try.func56, Try.ntmps56
 go_wp2
 go_ret
 exact ⟨zx, by repeat (first | exact Drawn0.refl _ | apply Drawn0.step)⟩

/-! ### spec_l03Plied: function 32 -/
def spec_l03Plied.l0 : Nat → List (S33) → Int → Int → Int → Option (Int)
  | 0, _, _, _, _ => none
  | k + 1, x0, x1, x5, x6 => if x6 < (x0.length : Int) then (if 0 ≤ x6 then ((spec_l00Min.f x5 (wrap64 ((rd_T33 x0 x6).f0))).bind fun t194 => (spec_l03Plied.l0 k x0 x1 t194 (wrap64 (x6 + 1)))) else (none)) else ((spec_l01Size.f x1).bind fun t195 => (some (wrap64 (x5 - (wrap64 (Int.tdiv t195 50))))))
def spec_l03Plied.f (k : Nat) (l0 : List (S33)) (a1 : Int) : Option (Int) := if 0 < (l0.length : Int) then (spec_l03Plied.l0 k l0 a1 (wrap64 ((rd_T33 l0 0).f0)) 1) else (none)
theorem spec_l03Plied.mono_l : ∀ k, (∀ y0 y1 y2 y3, LeO (spec_l03Plied.l0 k y0 y1 y2 y3) (spec_l03Plied.l0 (k + 1) y0 y1 y2 y3))
  | 0 => fun _ _ _ _ r h => by simp [spec_l03Plied.l0] at h
  | k + 1 => by
    have ih0 := spec_l03Plied.mono_l k
    · intro y0 y1 y2 y3
      unfold spec_l03Plied.l0
      repeat' first
      | (with_reducible exact ih0 _ _ _ _)
      | (with_reducible exact LeO.refl _)
      | (with_reducible exact LeO.none _)
      | (with_reducible refine LeO.ite ?_ ?_)
      | (with_reducible refine LeO.bind ?_ (fun _ => ?_))
      | (with_reducible refine allG_mono _ (fun _ => ?_))
      | (with_reducible refine idxG_mono _ (fun _ => ?_))
      | exact ih0 _ _ _ _
      | exact LeO.none _
      | refine LeO.ite ?_ ?_
      | refine LeO.bind ?_ (fun _ => ?_)
theorem spec_l03Plied.mono : ∀ a0 a1 k, LeO (spec_l03Plied.f k a0 a1) (spec_l03Plied.f (k + 1) a0 a1) := by
  intro a0 a1 k
  have ih0 := spec_l03Plied.mono_l k
  unfold spec_l03Plied.f
  repeat' first
      | (with_reducible exact ih0 _ _ _ _)
      | (with_reducible exact LeO.refl _)
      | (with_reducible exact LeO.none _)
      | (with_reducible refine LeO.ite ?_ ?_)
      | (with_reducible refine LeO.bind ?_ (fun _ => ?_))
      | (with_reducible refine allG_mono _ (fun _ => ?_))
      | (with_reducible refine idxG_mono _ (fun _ => ?_))
      | exact ih0 _ _ _ _
      | exact LeO.none _
      | refine LeO.ite ?_ ?_
      | refine LeO.bind ?_ (fun _ => ?_)
set_option maxHeartbeats 8000000 in
set_option maxRecDepth 100000 in
theorem spec_l03Plied.calls (k : Nat) (A0 : Option Addr) (c0 : Nat) (l0 : List (S33)) (a1 : Int) (r : Int) (w : World) (hr0 : Kd.C k33 w A0 l0.length l0) (hc0 : l0.length ≤ c0) (h : spec_l03Plied.f k l0 a1 = some r) :
    Calls Try.prog 32 #[.slice A0 l0.length c0, .int .i64 a1] w fun e w' => e = .returned (.int .i64 r) ∧ Drawn0 w w' := by
 have HR0 := Aside0.mk hr0
 have HC0 := Aside0.mk hc0
 clear hr0 hc0
 have H : (if 0 < (l0.length : Int) then (spec_l03Plied.l0 k l0 a1 (wrap64 ((rd_T33 l0 0).f0)) 1) else (none)) = some r := h
 clear h
 by_cases c3 : 0 < (l0.length : Int)
 rotate_left
 · rw [if_neg c3] at H
   exact absurd H (by simp)
 rw [if_pos c3] at H
 have c3b0 : decide (0 < (l0.length : Int)) = true := decide_eq_true c3
 have c3b1 : decide (0 < l0.length) = true := decide_eq_true (by omega)
 clear c3
 have H' := Aside0.mk H
 clear H
 have p192 : 0 ≤ (0 : Int) := (by omega)
 have q192 : 0 < (l0.length : Int) := zd
 obtain ⟨ad192, e192, hx192_0, hx192_1, hx192_2⟩ := at_T33 HR0.out 0 p192 q192
 cases e192
 have qi192 : (0 < l0.length) = True := eq_true (by omega)
 (try rw [show ((0 : Int)).toNat = 0 from rfl] at hx192_0)
 (try rw [show 0 * 3 = 0 from rfl] at hx192_0)
 (try rw [Addr.add_zero'] at hx192_0)
 (try rw [show ((0 : Int)).toNat = 0 from rfl] at hx192_1)
 (try rw [show 0 * 3 = 0 from rfl] at hx192_1)
 (try rw [Addr.add_zero'] at hx192_1)
 (try rw [show ((0 : Int)).toNat = 0 from rfl] at hx192_2)
 (try rw [show 0 * 3 = 0 from rfl] at hx192_2)
 (try rw [Addr.add_zero'] at hx192_2)
 replace p192 := eq_true p192
 replace q192 := eq_true q192
 go_enter Try.func32, Try.ntmps32
 go_wp2
 go_loopg [5, 6] k (fun kq v5 v6 w' => ∃ (x5_1 : Int) (x6_1 : Int), v5 = .int .i64 x5_1 ∧ v6 = .int .i64 x6_1 ∧ Aside0 (spec_l03Plied.l0 kq l0 a1 x5_1 x6_1 = some r) ∧ Aside0 (kq ≤ k) ∧ Drawn0 w w')
 case atStart => exact ⟨(wrap64 ((rd_T33 l0 0).f0)), (1), zx, zx, H', ⟨Nat.le_refl _⟩, by repeat (first | exact Drawn0.refl _ | apply Drawn0.step)⟩
 case round =>
 clear H'
 try clear p1
 try clear q1
 try clear hx1
 try clear qi1
 try clear p2
 try clear c3
 try clear c3b0
 try clear c3b1
 try clear hx192_0
 try clear hx192_1
 try clear hx192_2
 try clear p192
 try clear q192
 obtain ⟨x5_1, x6_1, rfl, rfl, HA, HK1, ⟨m1, rfl⟩⟩ := hrel
 cases gk with
 | zero => exact absurd HA.out (by simp [spec_l03Plied.l0])
 | succ k1 =>
  have H := HA.out
  clear HA
  simp only [spec_l03Plied.l0] at H
  by_cases c4 : x6_1 < (l0.length : Int)
  rotate_left
  · rw [if_neg c4] at H
    have c4b0 : decide (x6_1 < (l0.length : Int)) = false := decide_eq_false c4
    clear c4
    replace H := Option.bind_eq_some_iff.mp H
    obtain ⟨t195, A70, H⟩ := H
    replace H : (some (wrap64 (x5_1 - (wrap64 (Int.tdiv t195 50))))) = some r := H
    have A7 := Aside0.mk A70
    clear A70
    obtain rfl := Option.some.inj H
    go_wp2_with (first | ((with_reducible refine gate_callee (f := 55) rfl ?_); refine goesL_ (some 28) rfl rfl Try.func55 (by kernel_rfl) rfl #[.int .i64 a1] rfl zr ?_; (with_reducible refine (spec_l01Size.calls a1 t195 _ A7.out).mono ?_); rintro e w' ⟨rfl, ⟨nd, rfl⟩⟩; refine ⟨_, rfl, ?_⟩))
    go_ret
    exact ⟨zx, by repeat (first | exact Drawn0.refl _ | apply Drawn0.step)⟩
  rw [if_pos c4] at H
  have c4b0 : decide (x6_1 < (l0.length : Int)) = true := decide_eq_true c4
  clear c4
  by_cases c5 : 0 ≤ x6_1
  rotate_left
  · rw [if_neg c5] at H
    exact absurd H (by simp)
  rw [if_pos c5] at H
  have c5b0 : decide (0 ≤ x6_1) = true := decide_eq_true c5
  clear c5
  replace H := Option.bind_eq_some_iff.mp H
  obtain ⟨t194, A60, H⟩ := H
  replace H : (spec_l03Plied.l0 k1 l0 a1 t194 (wrap64 (x6_1 + 1))) = some r := H
  have A6 := Aside0.mk A60
  clear A60
  have H' := Aside0.mk H
  clear H
  have p193 : 0 ≤ (x6_1 : Int) := zd
  have q193 : x6_1 < (l0.length : Int) := zd
  obtain ⟨ad193, e193, hx193_0, hx193_1, hx193_2⟩ := at_T33 HR0.out x6_1 p193 q193
  obtain rfl : ad192 = ad193 := (by injection e193)
  replace p193 := eq_true p193
  replace q193 := eq_true q193
  go_wp2_with (first | ((with_reducible refine gate_callee (f := 56) rfl ?_); refine goesL_ (some 25) rfl rfl Try.func56 (by kernel_rfl) rfl #[.int .i64 x5_1, .int .i64 (wrap64 ((rd_T33 l0 x6_1).f0))] rfl zr ?_; (with_reducible refine (spec_l00Min.calls x5_1 (wrap64 ((rd_T33 l0 x6_1).f0)) t194 _ A6.out).mono ?_); rintro e w' ⟨rfl, ⟨nd, rfl⟩⟩; refine ⟨_, rfl, ?_⟩))
  go_roundg k1
  case measure => have := HK1.out; omega
  case rel => exact ⟨(t194), (wrap64 (x6_1 + 1)), zx, zx, H', ⟨by have := HK1.out; omega⟩, by repeat (first | exact Drawn0.refl _ | apply Drawn0.step)⟩

/-! ### spec_PlyLong: function 12 -/
def spec_PlyLong.f (k : Nat) (l0 : List (S33)) (a1 : Int) : Option (Int × Int) := (spec_l03Plies.f k l0 a1).bind fun t196 => (if t196 = 0 then ((spec_l03Plied.f k l0 a1).bind fun t197 => (if t197 < 1 then (some (0, 6)) else (some (t197, 0)))) else (some (0, t196)))
theorem spec_PlyLong.mono : ∀ a0 a1 k, LeO (spec_PlyLong.f k a0 a1) (spec_PlyLong.f (k + 1) a0 a1) := by
  intro a0 a1 k
  unfold spec_PlyLong.f
  repeat' first
      | (with_reducible exact spec_l03Plied.mono _ _ _)
      | (with_reducible exact spec_l03Plies.mono _ _ _)
      | (with_reducible exact LeO.refl _)
      | (with_reducible exact LeO.none _)
      | (with_reducible refine LeO.ite ?_ ?_)
      | (with_reducible refine LeO.bind ?_ (fun _ => ?_))
      | (with_reducible refine allG_mono _ (fun _ => ?_))
      | (with_reducible refine idxG_mono _ (fun _ => ?_))
      | exact spec_l03Plied.mono _ _ _
      | exact spec_l03Plies.mono _ _ _
      | exact LeO.none _
      | refine LeO.ite ?_ ?_
      | refine LeO.bind ?_ (fun _ => ?_)
set_option maxHeartbeats 8000000 in
set_option maxRecDepth 100000 in
theorem spec_PlyLong.calls (k : Nat) (A0 : Option Addr) (c0 : Nat) (l0 : List (S33)) (a1 : Int) (r1 : Int) (r2 : Int) (w : World) (hr0 : Kd.C k33 w A0 l0.length l0) (hc0 : l0.length ≤ c0) (h : spec_PlyLong.f k l0 a1 = some (r1, r2)) :
    Calls Try.prog 12 #[.slice A0 l0.length c0, .int .i64 a1] w fun e w' => e = .returned (.tuple #[.int .i64 r1, .int .i64 r2]) ∧ Below w.heap.size w w' := by
 have HR0 := Aside0.mk hr0
 have HC0 := Aside0.mk hc0
 clear hr0 hc0
 have HB := Aside0.mk (Below.refl w.heap.size w)
 have H : ((spec_l03Plies.f k l0 a1).bind fun t196 => (if t196 = 0 then ((spec_l03Plied.f k l0 a1).bind fun t197 => (if t197 < 1 then (some (0, 6)) else (some (t197, 0)))) else (some (0, t196)))) = some (r1, r2) := h
 clear h
 replace H := Option.bind_eq_some_iff.mp H
 obtain ⟨t196, A30, H⟩ := H
 replace H : (if t196 = 0 then ((spec_l03Plied.f k l0 a1).bind fun t197 => (if t197 < 1 then (some (0, 6)) else (some (t197, 0)))) else (some (0, t196))) = some (r1, r2) := H
 have A3 := Aside0.mk A30
 clear A30
 by_cases c4 : t196 = 0
 rotate_left
 · rw [if_neg c4] at H
   have c4b0 : (t196 == 0) = false := beq_eq_false_iff_ne.mpr c4
   have c4b1 : (t196 != 0) = true := bne_iff_ne.mpr c4
   simp only [Option.some.injEq, Prod.mk.injEq] at H
   obtain ⟨rfl, rfl⟩ := H
   go_enter Try.func12, Try.ntmps12
   go_wp2_with (first | ((with_reducible refine gate_callee (f := 28) rfl ?_); refine goesL_ (some 10) rfl rfl Try.func28 (by kernel_rfl) rfl #[.slice A0 l0.length c0, .int .i64 a1] rfl zr ?_; (with_reducible refine (spec_l03Plies.calls k _ _ l0 a1 t196 _ ?side1 ?side2 A3.out).mono ?_); (case side1 => exact zk HR0.out); (case side2 => exact HC0.out); rintro e w9 ⟨rfl, hb⟩; refine ⟨_, rfl, ?_⟩; refine up1 (below_step (zb HB.out) hb) ?_; clear HB; intro HB; (try clear hb); (try clear hb2); (try clear hk); (try clear hi)))
   go_ret2
   exact ⟨zs, zb HB.out⟩
 rw [if_pos c4] at H
 have c4b0 : (t196 == 0) = true := beq_iff_eq.mpr c4
 have c4b1 : (t196 != 0) = false := bne_eq_false_iff_eq.mpr c4
 clear c4
 replace H := Option.bind_eq_some_iff.mp H
 obtain ⟨t197, A50, H⟩ := H
 replace H : (if t197 < 1 then (some (0, 6)) else (some (t197, 0))) = some (r1, r2) := H
 have A5 := Aside0.mk A50
 clear A50
 by_cases c6 : t197 < 1
 · rw [if_pos c6] at H
   have c6b0 : decide (t197 < 1) = true := decide_eq_true c6
   clear c6
   simp only [Option.some.injEq, Prod.mk.injEq] at H
   obtain ⟨rfl, rfl⟩ := H
   go_enter Try.func12, Try.ntmps12
   go_wp2_with (first | ((with_reducible refine gate_callee (f := 28) rfl ?_); refine goesL_ (some 10) rfl rfl Try.func28 (by kernel_rfl) rfl #[.slice A0 l0.length c0, .int .i64 a1] rfl zr ?_; (with_reducible refine (spec_l03Plies.calls k _ _ l0 a1 t196 _ ?side1 ?side2 A3.out).mono ?_); (case side1 => exact zk HR0.out); (case side2 => exact HC0.out); rintro e w7 ⟨rfl, hb⟩; refine ⟨_, rfl, ?_⟩; refine up1 (below_step (zb HB.out) hb) ?_; clear HB; intro HB; (try clear hb); (try clear hb2); (try clear hk); (try clear hi)) | ((with_reducible refine gate_callee (f := 32) rfl ?_); refine goesL_ (some 16) rfl rfl Try.func32 (by kernel_rfl) rfl #[.slice A0 l0.length c0, .int .i64 a1] rfl zr ?_; (with_reducible refine (spec_l03Plied.calls k _ _ l0 a1 t197 _ ?side1 ?side2 A5.out).mono ?_); (case side1 => exact zk (Kd.C_below HR0.out HB.out)); (case side2 => exact HC0.out); rintro e w' ⟨rfl, ⟨nd, rfl⟩⟩; refine ⟨_, rfl, ?_⟩))
   go_ret2
   exact ⟨zs, zb HB.out⟩
 rw [if_neg c6] at H
 have c6b0 : decide (t197 < 1) = false := decide_eq_false c6
 clear c6
 simp only [Option.some.injEq, Prod.mk.injEq] at H
 obtain ⟨rfl, rfl⟩ := H
 go_enter Try.func12, Try.ntmps12
 go_wp2_with (first | ((with_reducible refine gate_callee (f := 28) rfl ?_); refine goesL_ (some 10) rfl rfl Try.func28 (by kernel_rfl) rfl #[.slice A0 l0.length c0, .int .i64 a1] rfl zr ?_; (with_reducible refine (spec_l03Plies.calls k _ _ l0 a1 t196 _ ?side1 ?side2 A3.out).mono ?_); (case side1 => exact zk HR0.out); (case side2 => exact HC0.out); rintro e w8 ⟨rfl, hb⟩; refine ⟨_, rfl, ?_⟩; refine up1 (below_step (zb HB.out) hb) ?_; clear HB; intro HB; (try clear hb); (try clear hb2); (try clear hk); (try clear hi)) | ((with_reducible refine gate_callee (f := 32) rfl ?_); refine goesL_ (some 16) rfl rfl Try.func32 (by kernel_rfl) rfl #[.slice A0 l0.length c0, .int .i64 a1] rfl zr ?_; (with_reducible refine (spec_l03Plied.calls k _ _ l0 a1 t197 _ ?side1 ?side2 A5.out).mono ?_); (case side1 => exact zk (Kd.C_below HR0.out HB.out)); (case side2 => exact HC0.out); rintro e w' ⟨rfl, ⟨nd, rfl⟩⟩; refine ⟨_, rfl, ?_⟩))
 go_ret2
 exact ⟨zs, zb HB.out⟩

/-! ### impl_sums: function 33 -/
def impl_sums.l0 : Nat → Int → Int → Int → List (S33) → Int → Int → Option (Int × Int × Int)
  | 0, _, _, _, _, _, _ => none
  | k + 1, x5, x6, x7, x10, x11, x12 => if x12 < x11 then (if 0 ≤ x12 then (if x12 < (x10.length : Int) then (impl_sums.l0 k (wrap64 (x5 + (wrap64 ((rd_T33 x10 x12).f0)))) (wrap64 (x6 + (wrap64 ((rd_T33 x10 x12).f1)))) (wrap64 (x7 + (wrap64 ((rd_T33 x10 x12).f2)))) x10 x11 (wrap64 (x12 + 1))) else (none)) else (none)) else (some (x5, x6, x7))
def impl_sums.f (k : Nat) (l0 : List (S33)) : Option (Int × Int × Int) := impl_sums.l0 k 0 0 0 l0 (l0.length : Int) 0
theorem impl_sums.mono_l : ∀ k, (∀ y0 y1 y2 y3 y4 y5, LeO (impl_sums.l0 k y0 y1 y2 y3 y4 y5) (impl_sums.l0 (k + 1) y0 y1 y2 y3 y4 y5))
  | 0 => fun _ _ _ _ _ _ r h => by simp [impl_sums.l0] at h
  | k + 1 => by
    have ih0 := impl_sums.mono_l k
    · intro y0 y1 y2 y3 y4 y5
      unfold impl_sums.l0
      repeat' first
      | (with_reducible exact ih0 _ _ _ _ _ _)
      | (with_reducible exact LeO.refl _)
      | (with_reducible exact LeO.none _)
      | (with_reducible refine LeO.ite ?_ ?_)
      | (with_reducible refine LeO.bind ?_ (fun _ => ?_))
      | (with_reducible refine allG_mono _ (fun _ => ?_))
      | (with_reducible refine idxG_mono _ (fun _ => ?_))
      | exact ih0 _ _ _ _ _ _
      | exact LeO.none _
      | refine LeO.ite ?_ ?_
      | refine LeO.bind ?_ (fun _ => ?_)
theorem impl_sums.mono : ∀ a0 k, LeO (impl_sums.f k a0) (impl_sums.f (k + 1) a0) := by
  intro a0 k
  have ih0 := impl_sums.mono_l k
  unfold impl_sums.f
  repeat' first
      | (with_reducible exact ih0 _ _ _ _ _ _)
      | (with_reducible exact LeO.refl _)
      | (with_reducible exact LeO.none _)
      | (with_reducible refine LeO.ite ?_ ?_)
      | (with_reducible refine LeO.bind ?_ (fun _ => ?_))
      | (with_reducible refine allG_mono _ (fun _ => ?_))
      | (with_reducible refine idxG_mono _ (fun _ => ?_))
      | exact ih0 _ _ _ _ _ _
      | exact LeO.none _
      | refine LeO.ite ?_ ?_
      | refine LeO.bind ?_ (fun _ => ?_)
set_option maxHeartbeats 8000000 in
set_option maxRecDepth 100000 in
theorem impl_sums.calls (k : Nat) (A0 : Option Addr) (c0 : Nat) (l0 : List (S33)) (r1 : Int) (r2 : Int) (r3 : Int) (w : World) (hr0 : Kd.C k33 w A0 l0.length l0) (hc0 : l0.length ≤ c0) (h : impl_sums.f k l0 = some (r1, r2, r3)) :
    Calls Try.prog 33 #[.slice A0 l0.length c0] w fun e w' => e = .returned (.tuple #[.int .i64 r1, .int .i64 r2, .int .i64 r3]) ∧ Below w.heap.size w w' := by
 have hu33 := Try.underlying33
 have HR0 := Aside0.mk hr0
 have HC0 := Aside0.mk hc0
 clear hr0 hc0
 have HB := Aside0.mk (Below.refl w.heap.size w)
 have H : (impl_sums.l0 k 0 0 0 l0 (l0.length : Int) 0) = some (r1, r2, r3) := h
 clear h
 have H' := Aside0.mk H
 clear H
 go_enter Try.func33, Try.ntmps33
 go_wp2
 go_loopg [5, 6, 7, 12] k (fun kq v5 v6 v7 v12 w' => ∃ (x5_1 : Int) (x6_1 : Int) (x7_1 : Int) (x12_1 : Int), v5 = .int .i64 x5_1 ∧ v6 = .int .i64 x6_1 ∧ v7 = .int .i64 x7_1 ∧ v12 = .int .i64 x12_1 ∧ Aside0 (impl_sums.l0 kq x5_1 x6_1 x7_1 l0 (l0.length : Int) x12_1 = some (r1, r2, r3)) ∧ Aside0 (kq ≤ k) ∧ Aside0 (Below w.heap.size w w'))
 case atStart => exact ⟨(0), (0), (0), (0), zx, zx, zx, zx, H', ⟨Nat.le_refl _⟩, ⟨zb HB.out⟩⟩
 case round =>
 clear H'
 obtain ⟨x5_1, x6_1, x7_1, x12_1, rfl, rfl, rfl, rfl, HA, HK1, HB⟩ := hrel
 cases gk with
 | zero => exact absurd HA.out (by simp [impl_sums.l0])
 | succ k1 =>
  have H := HA.out
  clear HA
  simp only [impl_sums.l0] at H
  by_cases c2 : x12_1 < (l0.length : Int)
  rotate_left
  · rw [if_neg c2] at H
    have c2b0 : decide (x12_1 < (l0.length : Int)) = false := decide_eq_false c2
    clear c2
    simp only [Option.some.injEq, Prod.mk.injEq] at H
    obtain ⟨rfl, rfl, rfl⟩ := H
    go_wp2
    go_ret3
    exact ⟨zs, zb HB.out⟩
  rw [if_pos c2] at H
  have c2b0 : decide (x12_1 < (l0.length : Int)) = true := decide_eq_true c2
  clear c2
  by_cases c3 : 0 ≤ x12_1
  rotate_left
  · rw [if_neg c3] at H
    exact absurd H (by simp)
  rw [if_pos c3] at H
  have c3b0 : decide (0 ≤ x12_1) = true := decide_eq_true c3
  clear c3
  by_cases c4 : x12_1 < (l0.length : Int)
  rotate_left
  · rw [if_neg c4] at H
    exact absurd H (by simp)
  rw [if_pos c4] at H
  have c4b0 : decide (x12_1 < (l0.length : Int)) = true := decide_eq_true c4
  clear c4
  have H' := Aside0.mk H
  clear H
  have p198 : 0 ≤ (x12_1 : Int) := zd
  have q198 : x12_1 < (l0.length : Int) := zd
  obtain ⟨ad198, e198, hx198_0, hx198_1, hx198_2⟩ := at_T33 HR0.out x12_1 p198 q198
  cases e198
  replace hx198_0 := zc HB.out hx198_0
  replace hx198_1 := zc HB.out hx198_1
  replace hx198_2 := zc HB.out hx198_2
  replace p198 := eq_true p198
  replace q198 := eq_true q198
  go_wp2_with (first | ((with_reducible refine gate_dst (N := 9) rfl ?_); refine box_event ?hg (N := 9) ?hd (cs := #[.int .i16 0, .int .i16 0, .int .i16 0]) (t := 33) ?hr ?_; (case hd => rfl); (case hg => rfl); (case hr => first | (go_simp; done) | (go_simp; rfl)); intro gb199 hg w5 hbox hb; refine up4 (below_step (zb HB.out) hb) (hbox) ((by rw [hg]; exact (below_size (zb HB.out)) : w.heap.size ≤ gb199)) ((by rw [hg]; exact (below_size (zb HB.out)) : w.heap.size ≤ gb199)) ?_; clear HB; intro HB BK199 GW199 GE199; clear hb hbox hg; have hcz6_0 : w5.cell? ⟨gb199, 0, none⟩ = some (.int .i16 0) := (blk_cell BK199.out 0).trans rfl; have hcz6_1 : w5.cell? ⟨gb199, 1, none⟩ = some (.int .i16 0) := (blk_cell BK199.out 1).trans rfl; have hcz6_2 : w5.cell? ⟨gb199, 2, none⟩ = some (.int .i16 0) := (blk_cell BK199.out 2).trans rfl; have hfz6_0 := blk_frozen BK199.out 0; have hfz6_1 := blk_frozen BK199.out 1; have hfz6_2 := blk_frozen BK199.out 2))
  go_roundg k1
  case measure => have := HK1.out; omega
  case rel => exact ⟨(wrap64 (x5_1 + (wrap64 ((rd_T33 l0 x12_1).f0)))), (wrap64 (x6_1 + (wrap64 ((rd_T33 l0 x12_1).f1)))), (wrap64 (x7_1 + (wrap64 ((rd_T33 l0 x12_1).f2)))), (wrap64 (x12_1 + 1)), zx, zx, zx, zx, H', ⟨by have := HK1.out; omega⟩, ⟨zb1 HB.out GE199.out⟩⟩

end Go.Proofs.Ythfanjdbemoaaaa.XFnPlies
