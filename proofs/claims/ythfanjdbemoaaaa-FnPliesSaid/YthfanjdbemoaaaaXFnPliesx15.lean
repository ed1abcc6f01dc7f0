/- The functions that the law FnPlies reaches: each as a Lean function, and that its call does what that function says; no conditions. -/
import Derived.Test.YthfanjdbemoaaaaXFnPliesx0
import Derived.Test.YthfanjdbemoaaaaXFnPliesx1
import Derived.Test.YthfanjdbemoaaaaXFnPliesx3
import Derived.Test.YthfanjdbemoaaaaXFnPliesx4
import Derived.Test.YthfanjdbemoaaaaXFnPliesx5
import Derived.Test.YthfanjdbemoaaaaXFnPliesx6
import Derived.Test.YthfanjdbemoaaaaXFnPliesx7
import Derived.Test.YthfanjdbemoaaaaXFnPliesx8
import Derived.Test.YthfanjdbemoaaaaXFnPliesx9
import Derived.Test.YthfanjdbemoaaaaXFnPliesx10
import Derived.Test.YthfanjdbemoaaaaXFnPliesx12
import Derived.Test.YthfanjdbemoaaaaXFnPliesx13
import Derived.Test.YthfanjdbemoaaaaXFnPliesx14
namespace Go.Proofs.Ythfanjdbemoaaaa.XFnPlies
open Go.RowKit Go.Proofs.YthfanjdbemoaaaaW.PrintWords Go.Proofs.YthfanjdbemoaaaaW.PrintLast Go.Proofs.YthfanjdbemoaaaaW.PrintMore
attribute [local go_sem] max2_int min2_int max_two min_two max_three min_three max_four min_four   -- for this text's walks alone
set_option linter.unusedVariables false
set_option linter.unusedSimpArgs false

attribute [local go_sem high] eqA33 eqA43
/-! ### laws_FnPlies: function 3 -/
mutual
def laws_FnPlies.j0 : Nat → List Int → List Int → Bool → Option (Bool)
  | 0, _, _, _ => none
  | k + 1, x0, x1, x75 => if x75 = true then (some true) else ((spec_P6Yarns.f k x0).bind fun t276 => ((spec_P6Pick.f x1 300).bind fun t279 => ((impl_BalanceTurns.f k t276).bind fun bt280 => ((spec_BalanceTurns.f k t276).bind fun bt283 => ((impl_RestOf.f k t276 (wrap64 (t279 - 150))).bind fun bt286 => ((spec_RestOf.f k t276 (wrap64 (t279 - 150))).bind fun bt288 => (if bt280.2.2 = bt283.2.2 then (if bt280.1 = bt283.1 then (if bt280.2.1 = bt283.2.1 then (if bt286.2 = bt288.2 then (if bt286.1 = bt288.1 then (if ((bt280.2.2 == 0) != (decide ((t276.length : Int) ≥ 2))) = true then (laws_FnPlies.j1 k x1 t276 (wrap64 (t279 - 150)) bt280.2.2 bt283.1 bt283.2.1 bt288.1 true) else (if bt280.2.2 = 0 then (laws_FnPlies.j1 k x1 t276 (wrap64 (t279 - 150)) bt280.2.2 bt283.1 bt283.2.1 bt288.1 false) else (laws_FnPlies.j1 k x1 t276 (wrap64 (t279 - 150)) bt280.2.2 bt283.1 bt283.2.1 bt288.1 (bt280.2.2 != 4)))) else (laws_FnPlies.j1 k x1 t276 (wrap64 (t279 - 150)) bt280.2.2 bt283.1 bt283.2.1 bt288.1 true)) else (laws_FnPlies.j1 k x1 t276 (wrap64 (t279 - 150)) bt280.2.2 bt283.1 bt283.2.1 bt288.1 true)) else (laws_FnPlies.j1 k x1 t276 (wrap64 (t279 - 150)) bt280.2.2 bt283.1 bt283.2.1 bt288.1 true)) else (laws_FnPlies.j1 k x1 t276 (wrap64 (t279 - 150)) bt280.2.2 bt283.1 bt283.2.1 bt288.1 true)) else (laws_FnPlies.j1 k x1 t276 (wrap64 (t279 - 150)) bt280.2.2 bt283.1 bt283.2.1 bt288.1 true))))))))
def laws_FnPlies.j1 : Nat → List Int → List (S33) → Int → Int → Int → Int → Int → Bool → Option (Bool)
  | 0, _, _, _, _, _, _, _, _ => none
  | k + 1, x1, x5, x6, x9, x10, x11, x15, x143 => if x143 = true then (none) else (if x9 = 0 then ((impl_RestOf.f k x5 x10).bind fun bt290 => (if bt290.2 = 0 then (if bt290.1 = x11 then (laws_FnPlies.j2 k x1 x5 x6 (decide (x15 < x11))) else (laws_FnPlies.j2 k x1 x5 x6 true)) else (laws_FnPlies.j2 k x1 x5 x6 true))) else (laws_FnPlies.j3 k x1 x5))
def laws_FnPlies.j3 : Nat → List Int → List (S33) → Option (Bool)
  | 0, _, _ => none
  | k + 1, x1, x5 => if ((x5.length : Int) % 2) = 1 then (if 1 ≤ (x5.length : Int) then (laws_FnPlies.j4 k x1 x5 (x5.drop 1)) else (none)) else (laws_FnPlies.j4 k x1 x5 x5)
def laws_FnPlies.j4 : Nat → List Int → List (S33) → List (S33) → Option (Bool)
  | 0, _, _, _ => none
  | k + 1, x1, x5, x27 => (impl_MatchSingles.f k x27).bind fun bt311 => ((spec_MatchSingles.f k x27).bind fun bt316 => (if bt311.2.2 = bt316.2.2 then (if bt311.2.2 = 0 then ((spec_SamePairs.f k bt311.1 bt316.1).bind fun t321 => (if t321 = true then (if bt311.2.1 = bt316.2.1 then (laws_FnPlies.j5 k x1 x5 x27 bt316.1 bt316.2.1 ((wrap64 (2 * (bt316.1.length : Int))) != (x27.length : Int))) else (laws_FnPlies.j5 k x1 x5 x27 bt316.1 bt316.2.1 true)) else (laws_FnPlies.j5 k x1 x5 x27 bt316.1 bt316.2.1 true))) else (laws_FnPlies.j5 k x1 x5 x27 bt316.1 bt316.2.1 true)) else (laws_FnPlies.j5 k x1 x5 x27 bt316.1 bt316.2.1 true)))
def laws_FnPlies.j5 : Nat → List Int → List (S33) → List (S33) → List (S41) → Int → Bool → Option (Bool)
  | 0, _, _, _, _, _, _ => none
  | k + 1, x1, x5, x27, x31, x32, x281 => if x281 = true then (none) else (if 0 ≤ (x27.length : Int) then (if ((x27.length : Int) : Int).toNat ≤ 281474976710656 then (laws_FnPlies.l0 k x1 x5 x27 x31 x32 (List.replicate ((x27.length : Int) : Int).toNat false) 0 0 0) else (none)) else (none))
def laws_FnPlies.l0 : Nat → List Int → List (S33) → List (S33) → List (S41) → Int → List Bool → Int → Int → Int → Option (Bool)
  | 0, _, _, _, _, _, _, _, _, _ => none
  | k + 1, x1, x5, x27, x31, x32, x34, x35, x36, x37 => if x37 < (x31.length : Int) then (if 0 ≤ x37 then (if ((rd_T41 x31 x37).f0) < 0 then (laws_FnPlies.j7 k x1 x5 x27 x31 x32 x34 x35 x36 x37 ((rd_T41 x31 x37).f0) ((rd_T41 x31 x37).f1) true) else (if ((rd_T41 x31 x37).f1) ≤ ((rd_T41 x31 x37).f0) then (laws_FnPlies.j7 k x1 x5 x27 x31 x32 x34 x35 x36 x37 ((rd_T41 x31 x37).f0) ((rd_T41 x31 x37).f1) true) else (if ((rd_T41 x31 x37).f1) ≥ (x27.length : Int) then (laws_FnPlies.j7 k x1 x5 x27 x31 x32 x34 x35 x36 x37 ((rd_T41 x31 x37).f0) ((rd_T41 x31 x37).f1) true) else (if 0 ≤ ((rd_T41 x31 x37).f0) then (if ((rd_T41 x31 x37).f0) < (x34.length : Int) then (if rdOf false x34 ((rd_T41 x31 x37).f0) = true then (laws_FnPlies.j7 k x1 x5 x27 x31 x32 x34 x35 x36 x37 ((rd_T41 x31 x37).f0) ((rd_T41 x31 x37).f1) true) else (if 0 ≤ ((rd_T41 x31 x37).f1) then (if ((rd_T41 x31 x37).f1) < (x34.length : Int) then (if rdOf false x34 ((rd_T41 x31 x37).f1) = true then (laws_FnPlies.j7 k x1 x5 x27 x31 x32 x34 x35 x36 x37 ((rd_T41 x31 x37).f0) ((rd_T41 x31 x37).f1) true) else (if x37 > 0 then (if 0 ≤ (wrap64 (x37 - 1)) then (if (wrap64 (x37 - 1)) < (x31.length : Int) then (laws_FnPlies.j7 k x1 x5 x27 x31 x32 x34 x35 x36 x37 ((rd_T41 x31 x37).f0) ((rd_T41 x31 x37).f1) (decide (((rd_T41 x31 x37).f0) ≤ ((rd_T41 x31 (wrap64 (x37 - 1))).f0)))) else (none)) else (none)) else (laws_FnPlies.j7 k x1 x5 x27 x31 x32 x34 x35 x36 x37 ((rd_T41 x31 x37).f0) ((rd_T41 x31 x37).f1) false))) else (none)) else (none))) else (none)) else (none))))) else (none)) else (if x35 = x32 then (laws_FnPlies.j8 k x1 x5 (decide (x36 < x32))) else (laws_FnPlies.j8 k x1 x5 true))
def laws_FnPlies.j7 : Nat → List Int → List (S33) → List (S33) → List (S41) → Int → List Bool → Int → Int → Int → Int → Int → Bool → Option (Bool)
  | 0, _, _, _, _, _, _, _, _, _, _, _, _ => none
  | k + 1, x1, x5, x27, x31, x32, x34, x35, x36, x37, x38, x39, x339 => if x339 = true then (none) else (if 0 ≤ x38 then (if x38 < (x34.length : Int) then (if 0 ≤ x39 then (if x39 < (x34.length : Int) then (if x38 < (x27.length : Int) then (if x39 < (x27.length : Int) then ((impl_BalanceTurns.f k (([(⟨(rd_T33 x27 x38).f0, (rd_T33 x27 x38).f1, (rd_T33 x27 x38).f2⟩ : S33), (⟨(rd_T33 x27 x39).f0, (rd_T33 x27 x39).f1, (rd_T33 x27 x39).f2⟩ : S33)] : List (S33)))).bind fun bt337 => (if 0 ≤ (wrap64 (2 * x37)) then (if (wrap64 (2 * x37)) < (x27.length : Int) then (if 0 ≤ (wrap64 ((wrap64 (2 * x37)) + 1)) then (if (wrap64 ((wrap64 (2 * x37)) + 1)) < (x27.length : Int) then ((impl_BalanceTurns.f k (([(⟨(rd_T33 x27 (wrap64 (2 * x37))).f0, (rd_T33 x27 (wrap64 (2 * x37))).f1, (rd_T33 x27 (wrap64 (2 * x37))).f2⟩ : S33), (⟨(rd_T33 x27 (wrap64 ((wrap64 (2 * x37)) + 1))).f0, (rd_T33 x27 (wrap64 ((wrap64 (2 * x37)) + 1))).f1, (rd_T33 x27 (wrap64 ((wrap64 (2 * x37)) + 1))).f2⟩ : S33)] : List (S33)))).bind fun bt345 => (if bt337.2.2 = 0 then (if bt345.2.2 = 0 then (laws_FnPlies.l0 k x1 x5 x27 x31 x32 ((x34.set (x38 : Int).toNat true).set (x39 : Int).toNat true) (wrap64 (x35 + bt337.2.1)) (wrap64 (x36 + bt345.2.1)) (wrap64 (x37 + 1))) else (none)) else (none))) else (none)) else (none)) else (none)) else (none))) else (none)) else (none)) else (none)) else (none)) else (none)) else (none))
def laws_FnPlies.j8 : Nat → List Int → List (S33) → Bool → Option (Bool)
  | 0, _, _, _ => none
  | k + 1, x1, x5, x396 => if x396 = true then (none) else (if (x5.length : Int) = 0 then ((impl_WeakestOf.f k x5).bind fun bt348 => (some (bt348.2.2.2 == 6))) else ((impl_WeakestOf.f k x5).bind fun bt353 => ((spec_WeakestOf.f k x5).bind fun bt358 => (if bt353.2.2.2 = bt358.2.2.2 then (if bt353.2.2.2 = 0 then (if bt353.1 = bt358.1 then (laws_FnPlies.j9 k x1 x5 bt358.1 (!(bt353.2.1 == bt358.2.1) || (!(bt353.2.2.1 == bt358.2.2.1)))) else (laws_FnPlies.j9 k x1 x5 bt358.1 true)) else (laws_FnPlies.j9 k x1 x5 bt358.1 true)) else (laws_FnPlies.j9 k x1 x5 bt358.1 true)))))
def laws_FnPlies.j9 : Nat → List Int → List (S33) → Int → Bool → Option (Bool)
  | 0, _, _, _, _ => none
  | k + 1, x1, x5, x52, x436 => if x436 = true then (none) else (laws_FnPlies.l1 k x1 x5 x52 0)
def laws_FnPlies.l1 : Nat → List Int → List (S33) → Int → Int → Option (Bool)
  | 0, _, _, _, _ => none
  | k + 1, x1, x5, x52, x55 => if x55 < (x5.length : Int) then (if 0 ≤ x55 then (if 0 ≤ x52 then (if x52 < (x5.length : Int) then (if (wrap64 ((wrap64 ((rd_T33 x5 x55).f0)) * (wrap64 ((rd_T33 x5 x52).f2)))) > (wrap64 ((wrap64 ((rd_T33 x5 x52).f0)) * (wrap64 ((rd_T33 x5 x55).f2)))) then (none) else (if (wrap64 ((wrap64 ((rd_T33 x5 x55).f0)) * (wrap64 ((rd_T33 x5 x52).f2)))) = (wrap64 ((wrap64 ((rd_T33 x5 x52).f0)) * (wrap64 ((rd_T33 x5 x55).f2)))) then (if x55 < x52 then (none) else (laws_FnPlies.l1 k x1 x5 x52 (wrap64 (x55 + 1)))) else (laws_FnPlies.l1 k x1 x5 x52 (wrap64 (x55 + 1))))) else (none)) else (none)) else (none)) else ((spec_P6Pick.f x1 (x5.length : Int)).bind fun t367 => ((impl_EvenPlies.f k x5 (wrap64 (1 + t367))).bind fun bt368 => ((spec_EvenPlies.f k x5 (wrap64 (1 + t367))).bind fun bt373 => (if bt368.2.2 = bt373.2.2 then (if bt368.2.2 = 0 then ((spec_SameNumbers.f k bt368.1 bt373.1).bind fun t378 => (if t378 = true then (if bt368.2.1 = bt373.2.1 then (laws_FnPlies.j11 k x5 (wrap64 (1 + t367)) bt373.1 bt373.2.1 ((bt373.1.length : Int) != (x5.length : Int))) else (laws_FnPlies.j11 k x5 (wrap64 (1 + t367)) bt373.1 bt373.2.1 true)) else (laws_FnPlies.j11 k x5 (wrap64 (1 + t367)) bt373.1 bt373.2.1 true))) else (laws_FnPlies.j11 k x5 (wrap64 (1 + t367)) bt373.1 bt373.2.1 true)) else (laws_FnPlies.j11 k x5 (wrap64 (1 + t367)) bt373.1 bt373.2.1 true)))))
def laws_FnPlies.j11 : Nat → List (S33) → Int → List Int → Int → Bool → Option (Bool)
  | 0, _, _, _, _, _ => none
  | k + 1, x5, x58, x62, x63, x525 => if x525 = true then (none) else (laws_FnPlies.l2 k x5 x58 x62 x63 0 0 0)
def laws_FnPlies.l2 : Nat → List (S33) → Int → List Int → Int → Int → Int → Int → Option (Bool)
  | 0, _, _, _, _, _, _, _ => none
  | k + 1, x5, x58, x62, x63, x65, x66, x67 => if x67 < x58 then (laws_FnPlies.l3 k x5 x58 x62 x63 x65 x66 x67 0 0) else (if x65 = x63 then (some (decide ((wrap64 (x63 * x58)) ≥ x66))) else (none))
def laws_FnPlies.l3 : Nat → List (S33) → Int → List Int → Int → Int → Int → Int → Int → Int → Option (Bool)
  | 0, _, _, _, _, _, _, _, _, _ => none
  | k + 1, x5, x58, x62, x63, x65, x66, x67, x68, x69 => if x69 < (x5.length : Int) then (if 0 ≤ x69 then (if x69 < (x62.length : Int) then (if (rd x62 x69) = x67 then (if (rd x62 x69) < 0 then (none) else (if (rd x62 x69) ≥ x58 then (none) else (laws_FnPlies.l3 k x5 x58 x62 x63 x65 x66 x67 (wrap64 (x68 + (wrap64 ((rd_T33 x5 x69).f0)))) (wrap64 (x69 + 1))))) else (if (rd x62 x69) < 0 then (none) else (if (rd x62 x69) ≥ x58 then (none) else (laws_FnPlies.l3 k x5 x58 x62 x63 x65 x66 x67 x68 (wrap64 (x69 + 1)))))) else (none)) else (none)) else (laws_FnPlies.l2 k x5 x58 x62 x63 (mx x65 x68) (wrap64 (x66 + x68)) (wrap64 (x67 + 1)))
def laws_FnPlies.j2 : Nat → List Int → List (S33) → Int → Bool → Option (Bool)
  | 0, _, _, _, _ => none
  | k + 1, x1, x5, x6, x163 => if x163 = true then (none) else ((impl_PlyLong.f k x5 x6).bind fun bt292 => ((spec_PlyLong.f k x5 x6).bind fun bt294 => ((impl_PlyYarns.f k x5 x6).bind fun bt296 => ((spec_PlyYarns.f k x5 x6).bind fun bt301 => (if bt292.2 = bt294.2 then (if bt292.1 = bt294.1 then (if bt296.2.2.2 = bt301.2.2.2 then (if (!(bt296.1 == bt301.1) || (!(bt296.2.1 == bt301.2.1) || (!(bt296.2.2.1 == bt301.2.2.1)))) = true then (none) else (if bt292.2 = 0 then (if bt296.2.2.2 = 0 then (if (wrap64 (bt301.1)) = bt294.1 then (if (wrap64 (bt301.2.1)) = x6 then (laws_FnPlies.j3 k x1 x5) else (none)) else (none)) else (laws_FnPlies.j3 k x1 x5)) else (if bt296.2.2.2 = bt292.2 then (laws_FnPlies.j3 k x1 x5) else (none)))) else (none)) else (none)) else (none))))))
end
def laws_FnPlies.f (k : Nat) (l0 : List Int) (l1 : List Int) : Option (Bool) := (laws_f6big.f l0).bind fun t274 => (if t274 = true then (laws_FnPlies.j0 k l0 l1 true) else ((laws_f6big.f l1).bind fun t275 => (laws_FnPlies.j0 k l0 l1 t275)))
theorem laws_FnPlies.mono_l : ∀ k, (∀ y0 y1 y2, LeO (laws_FnPlies.j0 k y0 y1 y2) (laws_FnPlies.j0 (k + 1) y0 y1 y2)) ∧ (∀ y0 y1 y2 y3 y4 y5 y6 y7, LeO (laws_FnPlies.j1 k y0 y1 y2 y3 y4 y5 y6 y7) (laws_FnPlies.j1 (k + 1) y0 y1 y2 y3 y4 y5 y6 y7)) ∧ (∀ y0 y1, LeO (laws_FnPlies.j3 k y0 y1) (laws_FnPlies.j3 (k + 1) y0 y1)) ∧ (∀ y0 y1 y2, LeO (laws_FnPlies.j4 k y0 y1 y2) (laws_FnPlies.j4 (k + 1) y0 y1 y2)) ∧ (∀ y0 y1 y2 y3 y4 y5, LeO (laws_FnPlies.j5 k y0 y1 y2 y3 y4 y5) (laws_FnPlies.j5 (k + 1) y0 y1 y2 y3 y4 y5)) ∧ (∀ y0 y1 y2 y3 y4 y5 y6 y7 y8, LeO (laws_FnPlies.l0 k y0 y1 y2 y3 y4 y5 y6 y7 y8) (laws_FnPlies.l0 (k + 1) y0 y1 y2 y3 y4 y5 y6 y7 y8)) ∧ (∀ y0 y1 y2 y3 y4 y5 y6 y7 y8 y9 y10 y11, LeO (laws_FnPlies.j7 k y0 y1 y2 y3 y4 y5 y6 y7 y8 y9 y10 y11) (laws_FnPlies.j7 (k + 1) y0 y1 y2 y3 y4 y5 y6 y7 y8 y9 y10 y11)) ∧ (∀ y0 y1 y2, LeO (laws_FnPlies.j8 k y0 y1 y2) (laws_FnPlies.j8 (k + 1) y0 y1 y2)) ∧ (∀ y0 y1 y2 y3, LeO (laws_FnPlies.j9 k y0 y1 y2 y3) (laws_FnPlies.j9 (k + 1) y0 y1 y2 y3)) ∧ (∀ y0 y1 y2 y3, LeO (laws_FnPlies.l1 k y0 y1 y2 y3) (laws_FnPlies.l1 (k + 1) y0 y1 y2 y3)) ∧ (∀ y0 y1 y2 y3 y4, LeO (laws_FnPlies.j11 k y0 y1 y2 y3 y4) (laws_FnPlies.j11 (k + 1) y0 y1 y2 y3 y4)) ∧ (∀ y0 y1 y2 y3 y4 y5 y6, LeO (laws_FnPlies.l2 k y0 y1 y2 y3 y4 y5 y6) (laws_FnPlies.l2 (k + 1) y0 y1 y2 y3 y4 y5 y6)) ∧ (∀ y0 y1 y2 y3 y4 y5 y6 y7 y8, LeO (laws_FnPlies.l3 k y0 y1 y2 y3 y4 y5 y6 y7 y8) (laws_FnPlies.l3 (k + 1) y0 y1 y2 y3 y4 y5 y6 y7 y8)) ∧ (∀ y0 y1 y2 y3, LeO (laws_FnPlies.j2 k y0 y1 y2 y3) (laws_FnPlies.j2 (k + 1) y0 y1 y2 y3))
  | 0 => ⟨fun _ _ _ r h => by simp [laws_FnPlies.j0] at h, fun _ _ _ _ _ _ _ _ r h => by simp [laws_FnPlies.j1] at h, fun _ _ r h => by simp [laws_FnPlies.j3] at h, fun _ _ _ r h => by simp [laws_FnPlies.j4] at h, fun _ _ _ _ _ _ r h => by simp [laws_FnPlies.j5] at h, fun _ _ _ _ _ _ _ _ _ r h => by simp [laws_FnPlies.l0] at h, fun _ _ _ _ _ _ _ _ _ _ _ _ r h => by simp [laws_FnPlies.j7] at h, fun _ _ _ r h => by simp [laws_FnPlies.j8] at h, fun _ _ _ _ r h => by simp [laws_FnPlies.j9] at h, fun _ _ _ _ r h => by simp [laws_FnPlies.l1] at h, fun _ _ _ _ _ r h => by simp [laws_FnPlies.j11] at h, fun _ _ _ _ _ _ _ r h => by simp [laws_FnPlies.l2] at h, fun _ _ _ _ _ _ _ _ _ r h => by simp [laws_FnPlies.l3] at h, fun _ _ _ _ r h => by simp [laws_FnPlies.j2] at h⟩
  | k + 1 => by
    obtain ⟨ih0, ih1, ih2, ih3, ih4, ih5, ih6, ih7, ih8, ih9, ih10, ih11, ih12, ih13⟩ := laws_FnPlies.mono_l k
    refine ⟨?_, ?_, ?_, ?_, ?_, ?_, ?_, ?_, ?_, ?_, ?_, ?_, ?_, ?_⟩ <;> intros <;> (first | unfold laws_FnPlies.j0 | unfold laws_FnPlies.j1 | unfold laws_FnPlies.j3 | unfold laws_FnPlies.j4 | unfold laws_FnPlies.j5 | unfold laws_FnPlies.l0 | unfold laws_FnPlies.j7 | unfold laws_FnPlies.j8 | unfold laws_FnPlies.j9 | unfold laws_FnPlies.l1 | unfold laws_FnPlies.j11 | unfold laws_FnPlies.l2 | unfold laws_FnPlies.l3 | unfold laws_FnPlies.j2) <;> (repeat' first | (with_reducible exact ih0 _ _ _) | (with_reducible exact ih1 _ _ _ _ _ _ _ _) | (with_reducible exact ih2 _ _) | (with_reducible exact ih3 _ _ _) | (with_reducible exact ih4 _ _ _ _ _ _) | (with_reducible exact ih5 _ _ _ _ _ _ _ _ _) | (with_reducible exact ih6 _ _ _ _ _ _ _ _ _ _ _ _) | (with_reducible exact ih7 _ _ _) | (with_reducible exact ih8 _ _ _ _) | (with_reducible exact ih9 _ _ _ _) | (with_reducible exact ih10 _ _ _ _ _) | (with_reducible exact ih11 _ _ _ _ _ _ _) | (with_reducible exact ih12 _ _ _ _ _ _ _ _ _) | (with_reducible exact ih13 _ _ _ _) | (with_reducible exact impl_BalanceTurns.mono _ _) | (with_reducible exact impl_EvenPlies.mono _ _ _) | (with_reducible exact impl_MatchSingles.mono _ _) | (with_reducible exact impl_PlyLong.mono _ _ _) | (with_reducible exact impl_PlyYarns.mono _ _ _) | (with_reducible exact impl_RestOf.mono _ _ _) | (with_reducible exact impl_WeakestOf.mono _ _) | (with_reducible exact spec_BalanceTurns.mono _ _) | (with_reducible exact spec_EvenPlies.mono _ _ _) | (with_reducible exact spec_MatchSingles.mono _ _) | (with_reducible exact spec_P6Yarns.mono _ _) | (with_reducible exact spec_PlyLong.mono _ _ _) | (with_reducible exact spec_PlyYarns.mono _ _ _) | (with_reducible exact spec_RestOf.mono _ _ _) | (with_reducible exact spec_SameNumbers.mono _ _ _) | (with_reducible exact spec_SamePairs.mono _ _ _) | (with_reducible exact spec_WeakestOf.mono _ _) | (with_reducible exact LeO.refl _) | (with_reducible exact LeO.none _) | (with_reducible refine LeO.ite ?_ ?_) | (with_reducible refine LeO.bind ?_ (fun _ => ?_)) | (with_reducible refine allG_mono _ (fun _ => ?_)) | (with_reducible refine idxG_mono _ (fun _ => ?_)) | exact ih0 _ _ _ | exact ih1 _ _ _ _ _ _ _ _ | exact ih2 _ _ | exact ih3 _ _ _ | exact ih4 _ _ _ _ _ _ | exact ih5 _ _ _ _ _ _ _ _ _ | exact ih6 _ _ _ _ _ _ _ _ _ _ _ _ | exact ih7 _ _ _ | exact ih8 _ _ _ _ | exact ih9 _ _ _ _ | exact ih10 _ _ _ _ _ | exact ih11 _ _ _ _ _ _ _ | exact ih12 _ _ _ _ _ _ _ _ _ | exact ih13 _ _ _ _ | exact impl_BalanceTurns.mono _ _ | exact impl_EvenPlies.mono _ _ _ | exact impl_MatchSingles.mono _ _ | exact impl_PlyLong.mono _ _ _ | exact impl_PlyYarns.mono _ _ _ | exact impl_RestOf.mono _ _ _ | exact impl_WeakestOf.mono _ _ | exact spec_BalanceTurns.mono _ _ | exact spec_EvenPlies.mono _ _ _ | exact spec_MatchSingles.mono _ _ | exact spec_P6Yarns.mono _ _ | exact spec_PlyLong.mono _ _ _ | exact spec_PlyYarns.mono _ _ _ | exact spec_RestOf.mono _ _ _ | exact spec_SameNumbers.mono _ _ _ | exact spec_SamePairs.mono _ _ _ | exact spec_WeakestOf.mono _ _ | exact LeO.none _ | refine LeO.ite ?_ ?_ | refine LeO.bind ?_ (fun _ => ?_))
theorem laws_FnPlies.mono : ∀ a0 a1 k, LeO (laws_FnPlies.f k a0 a1) (laws_FnPlies.f (k + 1) a0 a1) := by
  intro a0 a1 k
  obtain ⟨ih0, ih1, ih2, ih3, ih4, ih5, ih6, ih7, ih8, ih9, ih10, ih11, ih12, ih13⟩ := laws_FnPlies.mono_l k
  unfold laws_FnPlies.f
  repeat' first
      | (with_reducible exact ih0 _ _ _)
      | (with_reducible exact ih1 _ _ _ _ _ _ _ _)
      | (with_reducible exact ih2 _ _)
      | (with_reducible exact ih3 _ _ _)
      | (with_reducible exact ih4 _ _ _ _ _ _)
      | (with_reducible exact ih5 _ _ _ _ _ _ _ _ _)
      | (with_reducible exact ih6 _ _ _ _ _ _ _ _ _ _ _ _)
      | (with_reducible exact ih7 _ _ _)
      | (with_reducible exact ih8 _ _ _ _)
      | (with_reducible exact ih9 _ _ _ _)
      | (with_reducible exact ih10 _ _ _ _ _)
      | (with_reducible exact ih11 _ _ _ _ _ _ _)
      | (with_reducible exact ih12 _ _ _ _ _ _ _ _ _)
      | (with_reducible exact ih13 _ _ _ _)
      | (with_reducible exact impl_BalanceTurns.mono _ _)
      | (with_reducible exact impl_EvenPlies.mono _ _ _)
      | (with_reducible exact impl_MatchSingles.mono _ _)
      | (with_reducible exact impl_PlyLong.mono _ _ _)
      | (with_reducible exact impl_PlyYarns.mono _ _ _)
      | (with_reducible exact impl_RestOf.mono _ _ _)
      | (with_reducible exact impl_WeakestOf.mono _ _)
      | (with_reducible exact spec_BalanceTurns.mono _ _)
      | (with_reducible exact spec_EvenPlies.mono _ _ _)
      | (with_reducible exact spec_MatchSingles.mono _ _)
      | (with_reducible exact spec_P6Yarns.mono _ _)
      | (with_reducible exact spec_PlyLong.mono _ _ _)
      | (with_reducible exact spec_PlyYarns.mono _ _ _)
      | (with_reducible exact spec_RestOf.mono _ _ _)
      | (with_reducible exact spec_SameNumbers.mono _ _ _)
      | (with_reducible exact spec_SamePairs.mono _ _ _)
      | (with_reducible exact spec_WeakestOf.mono _ _)
      | (with_reducible exact LeO.refl _)
      | (with_reducible exact LeO.none _)
      | (with_reducible refine LeO.ite ?_ ?_)
      | (with_reducible refine LeO.bind ?_ (fun _ => ?_))
      | (with_reducible refine allG_mono _ (fun _ => ?_))
      | (with_reducible refine idxG_mono _ (fun _ => ?_))
      | exact ih0 _ _ _
      | exact ih1 _ _ _ _ _ _ _ _
      | exact ih2 _ _
      | exact ih3 _ _ _
      | exact ih4 _ _ _ _ _ _
      | exact ih5 _ _ _ _ _ _ _ _ _
      | exact ih6 _ _ _ _ _ _ _ _ _ _ _ _
      | exact ih7 _ _ _
      | exact ih8 _ _ _ _
      | exact ih9 _ _ _ _
      | exact ih10 _ _ _ _ _
      | exact ih11 _ _ _ _ _ _ _
      | exact ih12 _ _ _ _ _ _ _ _ _
      | exact ih13 _ _ _ _
      | exact impl_BalanceTurns.mono _ _
      | exact impl_EvenPlies.mono _ _ _
      | exact impl_MatchSingles.mono _ _
      | exact impl_PlyLong.mono _ _ _
      | exact impl_PlyYarns.mono _ _ _
      | exact impl_RestOf.mono _ _ _
      | exact impl_WeakestOf.mono _ _
      | exact spec_BalanceTurns.mono _ _
      | exact spec_EvenPlies.mono _ _ _
      | exact spec_MatchSingles.mono _ _
      | exact spec_P6Yarns.mono _ _
      | exact spec_PlyLong.mono _ _ _
      | exact spec_PlyYarns.mono _ _ _
      | exact spec_RestOf.mono _ _ _
      | exact spec_SameNumbers.mono _ _ _
      | exact spec_SamePairs.mono _ _ _
      | exact spec_WeakestOf.mono _ _
      | exact LeO.none _
      | refine LeO.ite ?_ ?_
      | refine LeO.bind ?_ (fun _ => ?_)
/-- THE ONE PURE STATEMENT of laws_FnPlies: yours. -/
def laws_FnPlies.Pure : Prop := ∀ (l0 : List Int) (l1 : List Int), (l0.length * 1 ≤ 140737488351232 ∧ ∀ x_ ∈ l0, (Lit.int .u8 x_).wf = true) → (l1.length * 1 ≤ 140737488351232 ∧ ∀ x_ ∈ l1, (Lit.int .u8 x_).wf = true) → ∃ k, laws_FnPlies.f k l0 l1 = some true

end Go.Proofs.Ythfanjdbemoaaaa.XFnPlies
