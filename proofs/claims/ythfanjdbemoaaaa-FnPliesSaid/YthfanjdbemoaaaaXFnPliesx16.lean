/- The functions that the law FnPlies reaches: each as a Lean function, and that its call does what that function says; no conditions. -/
import Derived.Test.YthfanjdbemoaaaaXFnPliesx0
import Derived.Test.YthfanjdbemoaaaaXFnPliesx1
import Derived.Test.YthfanjdbemoaaaaXFnPliesx3
import Derived.Test.YthfanjdbemoaaaaXFnPliesx4
import Derived.Test.YthfanjdbemoaaaaXFnPliesx5
import Derived.Test.YthfanjdbemoaaaaXFnPliesx6
import Derived.Test.YthfanjdbemoaaaaXFnPliesx7
import Derived.Test.YthfanjdbemoaaaaXFnPliesx8
import Derived.Test.YthfanjdbemoaaaaXFnPliesx9
import Derived.Test.YthfanjdbemoaaaaXFnPliesx10
import Derived.Test.YthfanjdbemoaaaaXFnPliesx12
import Derived.Test.YthfanjdbemoaaaaXFnPliesx13
import Derived.Test.YthfanjdbemoaaaaXFnPliesx14
import Derived.Test.YthfanjdbemoaaaaXFnPliesx15
namespace Go.Proofs.Ythfanjdbemoaaaa.XFnPlies
open Go.RowKit Go.Proofs.YthfanjdbemoaaaaW.PrintWords Go.Proofs.YthfanjdbemoaaaaW.PrintLast Go.Proofs.YthfanjdbemoaaaaW.PrintMore
attribute [local go_sem] max2_int min2_int max_two min_two max_three min_three max_four min_four   -- for this text's walks alone
set_option linter.unusedVariables false
set_option linter.unusedSimpArgs false

attribute [local go_sem high] eqA33 eqA43
/-! ### laws_FnPlies: its walk -/
def laws_FnPlies.T40 : Bool × List (List Nat × List Nat) := (true, [([], []), ([], []), ([0, 1], [0, 1]), ([2], [2]), ([], []), ([], []), ([4, 5], [4, 5]), ([6], [6]), ([3, 7], [3, 7]), ([8], [8]), ([9], [9]), ([10], [10]), ([10], [10]), ([10], [10]), ([11, 9, 0, 1, 2, 3, 4, 5, 6, 7, 8, 9, 10, 11], [11]), ([12, 14, 0, 1, 2, 3, 4, 5, 6, 7, 8, 9, 10, 11, 12, 14], [12]), ([13, 15, 0, 1, 2, 3, 4, 5, 6, 7, 8, 9, 10, 11, 12, 13, 14, 15], [13])])
def laws_FnPlies.B40 : List Nat := [0, 0, 3, 7, 0, 0, 48, 112, 255, 511, 1023, 2047, 2047, 2047, 4095, 24575, 65535]
theorem laws_FnPlies.tab40 : rtab .any (opsOf Try.f3 40) = laws_FnPlies.T40 := by kernel_rfl
theorem laws_FnPlies.bits40 : waitsOk laws_FnPlies.T40.2 laws_FnPlies.B40 = true := by kernel_rfl
def laws_FnPlies.T41 : Bool × List (List Nat × List Nat) := (true, [([], []), ([], []), ([1], [1]), ([0, 2], [0, 2]), ([3], [3]), ([], []), ([], []), ([6], [6]), ([7], [7]), ([5, 8], [5, 8]), ([9], [9]), ([4, 10], [4, 10]), ([11], [11]), ([12], [12]), ([13], [13]), ([13], [13]), ([13], [13]), ([14, 12, 0, 1, 2, 3, 4, 5, 6, 7, 8, 9, 10, 11, 12, 13, 14], [14]), ([15, 17, 0, 1, 2, 3, 4, 5, 6, 7, 8, 9, 10, 11, 12, 13, 14, 15, 17], [15]), ([16, 18, 0, 1, 2, 3, 4, 5, 6, 7, 8, 9, 10, 11, 12, 13, 14, 15, 16, 17, 18], [16])])
def laws_FnPlies.B41 : List Nat := [0, 0, 2, 7, 15, 0, 0, 64, 192, 480, 992, 2047, 4095, 8191, 16383, 16383, 16383, 32767, 196607, 524287]
theorem laws_FnPlies.tab41 : rtab .any (opsOf Try.f3 41) = laws_FnPlies.T41 := by kernel_rfl
theorem laws_FnPlies.bits41 : waitsOk laws_FnPlies.T41.2 laws_FnPlies.B41 = true := by kernel_rfl
def laws_FnPlies.T58 : Bool × List (List Nat × List Nat) := (true, [([], []), ([], []), ([0, 1], [0, 1]), ([2], [2]), ([3], [3]), ([4], [4]), ([], []), ([], []), ([6, 7], [6, 7]), ([8], [8]), ([9], [9]), ([10], [10]), ([5, 11], [5, 11]), ([12, 0, 1, 2, 3, 4, 5, 6, 7, 8, 9, 10, 11, 12], [12])])
def laws_FnPlies.B58 : List Nat := [0, 0, 3, 7, 15, 31, 0, 0, 192, 448, 960, 1984, 4095, 8191]
theorem laws_FnPlies.tab58 : rtab .any (opsOf Try.f3 58) = laws_FnPlies.T58 := by kernel_rfl
theorem laws_FnPlies.bits58 : waitsOk laws_FnPlies.T58.2 laws_FnPlies.B58 = true := by kernel_rfl
def laws_FnPlies.T59 : Bool × List (List Nat × List Nat) := (true, [([], []), ([], []), ([0, 1], [0, 1]), ([2], [2]), ([3], [3]), ([4], [4]), ([], []), ([], []), ([6, 7], [6, 7]), ([8], [8]), ([9], [9]), ([10], [10]), ([5, 11], [5, 11]), ([12, 0, 1, 2, 3, 4, 5, 6, 7, 8, 9, 10, 11, 12], [12])])
def laws_FnPlies.B59 : List Nat := [0, 0, 3, 7, 15, 31, 0, 0, 192, 448, 960, 1984, 4095, 8191]
theorem laws_FnPlies.tab59 : rtab .any (opsOf Try.f3 59) = laws_FnPlies.T59 := by kernel_rfl
theorem laws_FnPlies.bits59 : waitsOk laws_FnPlies.T59.2 laws_FnPlies.B59 = true := by kernel_rfl
/-- The first region of a code, and one more; and what follows up to the code that begins with a region. -/
def laws_FnPlies.fst : Code → Nat
  | .region n _ _ => n + 1
  | .seq a _ => laws_FnPlies.fst a
  | .cond _ a _ => laws_FnPlies.fst a
  | .block _ c => laws_FnPlies.fst c
  | .loop c => laws_FnPlies.fst c
  | .scope c => laws_FnPlies.fst c
  | _ => 0
def laws_FnPlies.find (n : Nat) : Code → Option Code
  | .seq a b => bif Nat.beq (laws_FnPlies.fst b) (n + 1) then some b else (match laws_FnPlies.find n a with | some c => some c | none => laws_FnPlies.find n b)
  | .cond _ a b => (match laws_FnPlies.find n a with | some c => some c | none => laws_FnPlies.find n b)
  | .block _ c => laws_FnPlies.find n c
  | .loop c => laws_FnPlies.find n c
  | .scope c => laws_FnPlies.find n c
  | _ => none
noncomputable def laws_FnPlies.tail (n : Nat) : Code := (Try.f3.body.bind (laws_FnPlies.find n)).getD .skip
set_option maxHeartbeats 8000000 in
set_option maxRecDepth 100000 in
theorem laws_FnPlies.p9 {A0 A1 Ao17 Ao88 Ao164 : Option Addr} {c0 c1 co17 co88 co164 gb357 gb362 k9 : Nat} {l0 l1 t373 : List Int} {r : Bool} {w wc : World} {u70 u71 u72 u73 u74 u17 u18 u19 u20 u21 u22 u23 u24 u25 u26 u105 u106 u107 u108 u109 u110 u111 u112 u113 u114 u115 u116 u117 u118 u119 u120 u121 u122 u123 u124 u125 u126 u127 u128 u129 u130 u131 u132 u133 u134 u135 u136 u137 u138 u139 u140 u141 u142 u143 u144 u145 u146 u147 u148 u149 u150 u151 u152 u153 u154 u155 u156 u157 u158 u159 u160 u161 u162 u163 u164 u165 u166 u167 u168 u169 u170 u171 u172 u173 u174 u175 u176 u177 u178 u179 u180 u181 u182 u183 u184 u185 u186 u187 u188 u189 u190 u191 u192 u193 u194 u195 u196 u197 u198 u199 u200 u201 u202 u203 u204 u205 u206 u207 u208 u209 u210 u211 u212 u213 u214 u215 u216 u217 u218 u219 u220 u221 u222 u223 u224 u225 u226 u227 u228 u229 u230 u231 u232 u233 u234 u235 u236 u237 u238 u239 u240 u241 u242 u243 v314 u256 u257 u258 u259 u260 u261 u262 u263 u264 u265 u266 u267 u268 u269 u270 u271 u272 u273 u274 u275 u276 u277 u278 u279 u280 v323 u38 u39 u40 u41 u42 u43 u44 u45 u289 u290 u291 u292 u293 u294 u295 u296 u297 u298 u299 u300 u301 u302 u303 u304 u305 u306 u307 u308 u309 u310 u311 u312 u313 u314 u315 u316 u317 u318 u319 u320 u321 u322 u323 u324 u325 u326 u327 u328 u329 u330 u331 u332 u333 u334 u335 u336 u337 u338 u339 u340 u341 u342 u343 u344 u345 u346 u347 u348 u349 u350 u351 u352 u353 u354 u355 u356 u357 u358 u359 u360 u361 u362 u363 u364 u365 u366 u367 u368 u369 u370 u371 u372 u373 u374 u375 u376 u377 u378 u379 u380 u381 u382 u383 u384 u385 u386 u387 u388 u389 u390 u391 u392 u393 u394 u395 u420 u421 u422 u423 u424 u425 u426 u427 u428 u429 u430 u431 u432 u433 u434 u435 u4 u56 u57 u441 u442 u443 u444 u445 u446 u447 u448 u449 u450 u451 u452 u453 u454 u455 u456 u457 u458 u459 u460 u461 u462 u463 u464 u465 u466 u467 u468 u469 u470 u471 u472 u473 u474 u475 u476 u477 u478 u479 u480 u481 v371 v376 u501 u502 u503 u504 u505 u506 u507 u508 u509 u510 u511 u512 u513 u514 u515 u516 u517 u518 u519 u520 u521 u522 u523 u524 : Value} {t276 x27_80 : List S33} {t279 t280 t281 t282 t283 t284 t285 t286 t287 t288 t289 t312 t313 t317 t318 x35_6 x36_6 x37_6 t353 t354 t355 t356 t358 t359 t360 t361 x55_9 t367 t369 t370 t374 t375 : Int} {t316 : List S41} {c : Code} (hcode : c = laws_FnPlies.tail 67) (GE357 : Aside0 (w.heap.size ≤ gb357)) (GE362 : Aside0 (w.heap.size ≤ gb362)) (hcut : ∃ kq, Aside0 (j11 kq t276 (wrap64 (1 + t367)) t373 t374 false = some r) ∧ Aside0 (kq ≤ k9) ∧ Aside0 (k33.V 33 wc w.heap.size (fun k_ => some k_ ≠ v376.ownBlock ∧ k_ ≠ gb357 ∧ k_ ≠ gb362) (Value.slice Ao17 t276.length co17) t276) ∧ Aside0 ((Kd.int IntKind.i64).R 2 wc w.heap.size (fun x => True) v376 t373) ∧ Aside0 (wc.heap[gb357]? = some (Obj.cells #[Value.int IntKind.i64 t354, Value.int IntKind.i64 t355] 43)) ∧ Aside0 (wc.heap[gb362]? = some (Obj.cells #[Value.int IntKind.i64 t359, Value.int IntKind.i64 t360] 43)) ∧ Aside0 (Below w.heap.size w wc)) :
    Code.wp Try.prog c (bodyPost Try.prog Try.f3 fun e w' => e = Ending.returned (Value.bool r) ∧ Below w.heap.size w w') { tmps := #[Value.slice A0 l0.length c0, Value.slice A1 l1.length c1, undef, undef, u4, Value.slice Ao17 t276.length co17, Value.int IntKind.i64 (wrap64 (t279 - 150)), Value.int IntKind.i64 t280, Value.int IntKind.i64 t281, Value.int IntKind.i64 t282, Value.int IntKind.i64 t283, Value.int IntKind.i64 t284, Value.int IntKind.i64 t285, Value.int IntKind.i64 t286, Value.int IntKind.i64 t287, Value.int IntKind.i64 t288, Value.int IntKind.i64 t289, u17, u18, u19, u20, u21, u22, u23, u24, u25, u26, Value.slice Ao88 x27_80.length co88, v314, Value.int IntKind.i64 t312, Value.int IntKind.i64 t313, Value.slice Ao164 t316.length co164, Value.int IntKind.i64 t317, Value.int IntKind.i64 t318, v323, Value.int IntKind.i64 x35_6, Value.int IntKind.i64 x36_6, Value.int IntKind.i64 x37_6, u38, u39, u40, u41, u42, u43, u44, u45, undef, undef, undef, Value.int IntKind.i64 t353, Value.pointer (some { block := gb357, off := 0 }), Value.int IntKind.i64 t356, Value.int IntKind.i64 t358, Value.pointer (some { block := gb362, off := 0 }), Value.int IntKind.i64 t361, Value.int IntKind.i64 x55_9, u56, u57, Value.int IntKind.i64 (wrap64 (1 + t367)), v371, Value.int IntKind.i64 t369, Value.int IntKind.i64 t370, v376, Value.int IntKind.i64 t374, Value.int IntKind.i64 t375, undef, undef, undef, undef, undef, u70, u71, u72, u73, u74, Value.bool false, Value.slice A0 l0.length c0, Value.slice Ao17 t276.length co17, Value.slice A1 l1.length c1, Value.int IntKind.i64 t279, Value.int IntKind.i64 (wrap64 (t279 - 150)), Value.tuple #[Value.int IntKind.i64 t280, Value.int IntKind.i64 t281, Value.int IntKind.i64 t282], Value.slice Ao17 t276.length co17, Value.tuple #[Value.int IntKind.i64 t280, Value.int IntKind.i64 t281, Value.int IntKind.i64 t282], Value.int IntKind.i64 t280, Value.int IntKind.i64 t281, Value.int IntKind.i64 t282, Value.tuple #[Value.int IntKind.i64 t283, Value.int IntKind.i64 t284, Value.int IntKind.i64 t285], Value.slice Ao17 t276.length co17, Value.tuple #[Value.int IntKind.i64 t283, Value.int IntKind.i64 t284, Value.int IntKind.i64 t285], Value.int IntKind.i64 t283, Value.int IntKind.i64 t284, Value.int IntKind.i64 t285, Value.tuple #[Value.int IntKind.i64 t286, Value.int IntKind.i64 t287], Value.slice Ao17 t276.length co17, Value.int IntKind.i64 (wrap64 (t279 - 150)), Value.tuple #[Value.int IntKind.i64 t286, Value.int IntKind.i64 t287], Value.int IntKind.i64 t286, Value.int IntKind.i64 t287, Value.tuple #[Value.int IntKind.i64 t288, Value.int IntKind.i64 t289], Value.slice Ao17 t276.length co17, Value.int IntKind.i64 (wrap64 (t279 - 150)), Value.tuple #[Value.int IntKind.i64 t288, Value.int IntKind.i64 t289], Value.int IntKind.i64 t288, Value.int IntKind.i64 t289, u105, u106, u107, u108, u109, u110, u111, u112, u113, u114, u115, u116, u117, u118, u119, u120, u121, u122, u123, u124, u125, u126, u127, u128, u129, u130, u131, u132, u133, u134, u135, u136, u137, u138, u139, u140, u141, u142, u143, u144, u145, u146, u147, u148, u149, u150, u151, u152, u153, u154, u155, u156, u157, u158, u159, u160, u161, u162, u163, u164, u165, u166, u167, u168, u169, u170, u171, u172, u173, u174, u175, u176, u177, u178, u179, u180, u181, u182, u183, u184, u185, u186, u187, u188, u189, u190, u191, u192, u193, u194, u195, u196, u197, u198, u199, u200, u201, u202, u203, u204, u205, u206, u207, u208, u209, u210, u211, u212, u213, u214, u215, u216, u217, u218, u219, u220, u221, u222, u223, u224, u225, u226, u227, u228, u229, u230, u231, u232, u233, u234, u235, u236, u237, u238, u239, u240, u241, u242, u243, Value.tuple #[v314, Value.int IntKind.i64 t312, Value.int IntKind.i64 t313], Value.slice Ao88 x27_80.length co88, Value.tuple #[v314, Value.int IntKind.i64 t312, Value.int IntKind.i64 t313], v314, Value.int IntKind.i64 t312, Value.int IntKind.i64 t313, Value.tuple #[Value.slice Ao164 t316.length co164, Value.int IntKind.i64 t317, Value.int IntKind.i64 t318], Value.slice Ao88 x27_80.length co88, Value.tuple #[Value.slice Ao164 t316.length co164, Value.int IntKind.i64 t317, Value.int IntKind.i64 t318], Value.slice Ao164 t316.length co164, Value.int IntKind.i64 t317, Value.int IntKind.i64 t318, u256, u257, u258, u259, u260, u261, u262, u263, u264, u265, u266, u267, u268, u269, u270, u271, u272, u273, u274, u275, u276, u277, u278, u279, u280, Value.bool false, Value.slice Ao88 x27_80.length co88, Value.int IntKind.i64 ↑x27_80.length, v323, Value.int IntKind.i64 x37_6, Value.slice Ao164 t316.length co164, Value.int IntKind.i64 ↑t316.length, Value.bool false, u289, u290, u291, u292, u293, u294, u295, u296, u297, u298, u299, u300, u301, u302, u303, u304, u305, u306, u307, u308, u309, u310, u311, u312, u313, u314, u315, u316, u317, u318, u319, u320, u321, u322, u323, u324, u325, u326, u327, u328, u329, u330, u331, u332, u333, u334, u335, u336, u337, u338, u339, u340, u341, u342, u343, u344, u345, u346, u347, u348, u349, u350, u351, u352, u353, u354, u355, u356, u357, u358, u359, u360, u361, u362, u363, u364, u365, u366, u367, u368, u369, u370, u371, u372, u373, u374, u375, u376, u377, u378, u379, u380, u381, u382, u383, u384, u385, u386, u387, u388, u389, u390, u391, u392, u393, u394, u395, Value.bool false, Value.slice Ao17 t276.length co17, Value.int IntKind.i64 ↑t276.length, Value.bool false, undef, undef, undef, undef, undef, undef, undef, undef, Value.tuple #[Value.int IntKind.i64 t353, Value.agg #[Value.int IntKind.i64 t354, Value.int IntKind.i64 t355], Value.int IntKind.i64 t356], Value.slice Ao17 t276.length co17, Value.tuple #[Value.int IntKind.i64 t353, Value.agg #[Value.int IntKind.i64 t354, Value.int IntKind.i64 t355], Value.int IntKind.i64 t356], Value.int IntKind.i64 t353, Value.agg #[Value.int IntKind.i64 t354, Value.int IntKind.i64 t355], Value.int IntKind.i64 t356, Value.tuple #[Value.int IntKind.i64 t358, Value.agg #[Value.int IntKind.i64 t359, Value.int IntKind.i64 t360], Value.int IntKind.i64 t361], Value.slice Ao17 t276.length co17, Value.tuple #[Value.int IntKind.i64 t358, Value.agg #[Value.int IntKind.i64 t359, Value.int IntKind.i64 t360], Value.int IntKind.i64 t361], Value.int IntKind.i64 t358, Value.agg #[Value.int IntKind.i64 t359, Value.int IntKind.i64 t360], Value.int IntKind.i64 t361, u420, u421, u422, u423, u424, u425, u426, u427, u428, u429, u430, u431, u432, u433, u434, u435, Value.bool false, Value.int IntKind.i64 x55_9, Value.slice Ao17 t276.length co17, Value.int IntKind.i64 ↑t276.length, Value.bool false, u441, u442, u443, u444, u445, u446, u447, u448, u449, u450, u451, u452, u453, u454, u455, u456, u457, u458, u459, u460, u461, u462, u463, u464, u465, u466, u467, u468, u469, u470, u471, u472, u473, u474, u475, u476, u477, u478, u479, u480, u481, Value.slice A1 l1.length c1, Value.slice Ao17 t276.length co17, Value.int IntKind.i64 ↑t276.length, Value.int IntKind.i64 t367, Value.int IntKind.i64 (wrap64 (1 + t367)), Value.tuple #[v371, Value.int IntKind.i64 t369, Value.int IntKind.i64 t370], Value.slice Ao17 t276.length co17, Value.int IntKind.i64 (wrap64 (1 + t367)), Value.tuple #[v371, Value.int IntKind.i64 t369, Value.int IntKind.i64 t370], v371, Value.int IntKind.i64 t369, Value.int IntKind.i64 t370, Value.tuple #[v376, Value.int IntKind.i64 t374, Value.int IntKind.i64 t375], Value.slice Ao17 t276.length co17, Value.int IntKind.i64 (wrap64 (1 + t367)), Value.tuple #[v376, Value.int IntKind.i64 t374, Value.int IntKind.i64 t375], v376, Value.int IntKind.i64 t374, Value.int IntKind.i64 t375, u501, u502, u503, u504, u505, u506, u507, u508, u509, u510, u511, u512, u513, u514, u515, u516, u517, u518, u519, u520, u521, u522, u523, u524, Value.bool false, undef, undef, undef, undef, undef, undef, undef, undef, undef, undef, undef, undef, undef, undef, undef, undef, undef, undef, undef, undef, undef, undef, undef, undef, undef, undef, undef, undef, undef, undef, undef, undef, undef, undef, undef, undef, undef, undef, undef, undef, undef, undef, undef, undef, undef, undef, undef, undef, undef, undef, undef, undef, undef, undef], defers := [] } wc := by
 have hu33 := Try.underlying33
 have hu43 := Try.underlying43
 subst hcode
 conv => arg 2; whnf
 obtain ⟨kq, HA, HJ202, HO_5, HO_62, BK357, BK362, HB⟩ := hcut
 cases kq with
 | zero => exact absurd HA.out (by simp [laws_FnPlies.j11])
 | succ kj202 =>
  have H := HA.out
  clear HA
  simp only [laws_FnPlies.j11] at H
  have H1 : (laws_FnPlies.l2 kj202 t276 (wrap64 (1 + t367)) t373 t374 0 0 0) = some r := by rw [if_neg (show ¬ (false = true) by decide)] at H; exact H
  clear H
  have H := H1
  clear H1
  have H' := Aside0.mk H
  clear H
  go_wp2
  go_loopg [65, 66, 67] kj202 (fun kq v65 v66 v67 w' => ∃ (x65_11 : Int) (x66_11 : Int) (x67_11 : Int), v65 = .int .i64 x65_11 ∧ v66 = .int .i64 x66_11 ∧ v67 = .int .i64 x67_11 ∧ Aside0 (laws_FnPlies.l2 kq t276 (wrap64 (1 + t367)) t373 t374 x65_11 x66_11 x67_11 = some r) ∧ Aside0 (kq ≤ kj202) ∧ Aside0 (Kd.V k33 33 w' w.heap.size (fun k_ => some k_ ≠ (v376 : Value).ownBlock ∧ k_ ≠ gb357 ∧ k_ ≠ gb362) (.slice Ao17 t276.length co17) t276) ∧ Aside0 (Kd.R (Kd.int .i64) 2 w' w.heap.size (fun _ => True) v376 t373) ∧ Aside0 (w'.heap[gb357]? = some (.cells #[.int .i64 t354, .int .i64 t355] 43 (0, 0))) ∧ Aside0 (w'.heap[gb362]? = some (.cells #[.int .i64 t359, .int .i64 t360] 43 (0, 0))) ∧ Aside0 (Below w.heap.size w w'))
  case atStart => exact ⟨(0), (0), (0), zx, zx, zx, H', ⟨Nat.le_refl _⟩, ⟨zv HO_5.out⟩, ⟨zw HO_62.out⟩, ⟨by (with_reducible repeat (first | refine blk_drewN ?_ _ | refine blk_drew ?_ | refine blk_alloc ?_ _)); exact BK357.out⟩, ⟨by (with_reducible repeat (first | refine blk_drewN ?_ _ | refine blk_drew ?_ | refine blk_alloc ?_ _)); exact BK362.out⟩, ⟨zb2 HB.out GE357.out GE362.out⟩⟩
  case round =>
  clear H'
  try clear c218
  obtain ⟨x65_11, x66_11, x67_11, rfl, rfl, rfl, HA, HK11, HO_5, HO_62, BK357, BK362, HB⟩ := hrel
  cases gk with
  | zero => exact absurd HA.out (by simp [laws_FnPlies.l2])
  | succ k11 =>
   have H := HA.out
   clear HA
   simp only [laws_FnPlies.l2] at H
   by_cases c219 : x67_11 < (wrap64 (1 + t367))
   rotate_left
   · rw [if_neg c219] at H
     have c219b0 : decide (x67_11 < (wrap64 (1 + t367))) = false := decide_eq_false c219
     clear c219
     by_cases c231 : x65_11 = t374
     rotate_left
     · rw [if_neg c231] at H
       exact absurd H (by simp)
     rw [if_pos c231] at H
     have c231b0 : (x65_11 == t374) = true := beq_iff_eq.mpr c231
     have c231b1 : (x65_11 != t374) = false := bne_eq_false_iff_eq.mpr c231
     clear c231
     obtain rfl := Option.some.inj H
     go_wp2
     go_ret
     exact ⟨zs, zb2 HB.out GE357.out GE362.out⟩
   rw [if_pos c219] at H
   have c219b0 : decide (x67_11 < (wrap64 (1 + t367))) = true := decide_eq_true c219
   clear c219
   have H' := Aside0.mk H
   clear H
   go_wp2
   go_loopg [68, 69] k11 (fun kq v68 v69 w' => ∃ (x68_12 : Int) (x69_12 : Int), v68 = .int .i64 x68_12 ∧ v69 = .int .i64 x69_12 ∧ Aside0 (laws_FnPlies.l3 kq t276 (wrap64 (1 + t367)) t373 t374 x65_11 x66_11 x67_11 x68_12 x69_12 = some r) ∧ Aside0 (kq ≤ k11) ∧ Aside0 (Kd.V k33 33 w' w.heap.size (fun k_ => some k_ ≠ (v376 : Value).ownBlock ∧ k_ ≠ gb357 ∧ k_ ≠ gb362) (.slice Ao17 t276.length co17) t276) ∧ Aside0 (Kd.R (Kd.int .i64) 2 w' w.heap.size (fun _ => True) v376 t373) ∧ Aside0 (w'.heap[gb357]? = some (.cells #[.int .i64 t354, .int .i64 t355] 43 (0, 0))) ∧ Aside0 (w'.heap[gb362]? = some (.cells #[.int .i64 t359, .int .i64 t360] 43 (0, 0))) ∧ Aside0 (Below w.heap.size w w'))
   case atStart => exact ⟨(0), (0), zx, zx, H', ⟨Nat.le_refl _⟩, ⟨zv HO_5.out⟩, ⟨zw HO_62.out⟩, ⟨by (with_reducible repeat (first | refine blk_drewN ?_ _ | refine blk_drew ?_ | refine blk_alloc ?_ _)); exact BK357.out⟩, ⟨by (with_reducible repeat (first | refine blk_drewN ?_ _ | refine blk_drew ?_ | refine blk_alloc ?_ _)); exact BK362.out⟩, ⟨zb2 HB.out GE357.out GE362.out⟩⟩
   case round =>
   clear H'
   try clear c219b0
   obtain ⟨x68_12, x69_12, rfl, rfl, HA, HK12, HO_5, HO_62, BK357, BK362, HB⟩ := hrel
   cases gk with
   | zero => exact absurd HA.out (by simp [laws_FnPlies.l3])
   | succ k12 =>
    have H := HA.out
    clear HA
    simp only [laws_FnPlies.l3] at H
    by_cases c220 : x69_12 < (t276.length : Int)
    rotate_left
    · rw [if_neg c220] at H
      have c220b0 : decide (x69_12 < (t276.length : Int)) = false := decide_eq_false c220
      clear c220
      obtain ⟨ji230, hji230⟩ : ∃ j_ : Int, (mx x65_11 x68_12) = j_ := ⟨_, rfl⟩
      replace H : (laws_FnPlies.l2 k12 t276 (wrap64 (1 + t367)) t373 t374 ji230 (wrap64 (x66_11 + x68_12)) (wrap64 (x67_11 + 1))) = some r := by first | (rw [hji230] at H; exact H) | (simp only [hji230] at H ⊢; exact H)
      have hji230_ : (if x65_11 < x68_12 then x68_12 else x65_11) = ji230 := hji230
      have H' := Aside0.mk H
      clear H
      go_wp2
      go_roundg k12
      case measure => have := HJ202.out; have := HK11.out; have := HK12.out; omega
      case rel => exact ⟨(ji230), (wrap64 (x66_11 + x68_12)), (wrap64 (x67_11 + 1)), (by first | rfl | (simp; done) | (simp only [← hji230] <;> (first | rfl | simp)) | (simp [*]; done)), zx, zx, H', ⟨by have := HJ202.out; have := HK11.out; have := HK12.out; omega⟩, ⟨zv HO_5.out⟩, ⟨zw HO_62.out⟩, ⟨by (with_reducible repeat (first | refine blk_drewN ?_ _ | refine blk_drew ?_ | refine blk_alloc ?_ _)); exact BK357.out⟩, ⟨by (with_reducible repeat (first | refine blk_drewN ?_ _ | refine blk_drew ?_ | refine blk_alloc ?_ _)); exact BK362.out⟩, ⟨zb2 HB.out GE357.out GE362.out⟩⟩
    rw [if_pos c220] at H
    have c220b0 : decide (x69_12 < (t276.length : Int)) = true := decide_eq_true c220
    clear c220
    by_cases c221 : 0 ≤ x69_12
    rotate_left
    · rw [if_neg c221] at H
      exact absurd H (by simp)
    rw [if_pos c221] at H
    have c221b0 : decide (0 ≤ x69_12) = true := decide_eq_true c221
    clear c221
    by_cases c222 : x69_12 < (t373.length : Int)
    rotate_left
    · rw [if_neg c222] at H
      exact absurd H (by simp)
    rw [if_pos c222] at H
    have c222b0 : decide (x69_12 < (t373.length : Int)) = true := decide_eq_true c222
    clear c222
    by_cases c223 : (rd t373 x69_12) = x67_11
    rotate_left
    · rw [if_neg c223] at H
      have c223b0 : ((rd t373 x69_12) == x67_11) = false := beq_eq_false_iff_ne.mpr c223
      have c223b1 : ((rd t373 x69_12) != x67_11) = true := bne_iff_ne.mpr c223
      by_cases c227 : (rd t373 x69_12) < 0
      · rw [if_pos c227] at H
        exact absurd H (by simp)
      rw [if_neg c227] at H
      have c227b0 : decide ((rd t373 x69_12) < 0) = false := decide_eq_false c227
      clear c227
      by_cases c228 : (rd t373 x69_12) ≥ (wrap64 (1 + t367))
      · rw [if_pos c228] at H
        exact absurd H (by simp)
      rw [if_neg c228] at H
      have c228b0 : decide ((wrap64 (1 + t367)) ≤ (rd t373 x69_12)) = false := decide_eq_false c228
      clear c228
      have H' := Aside0.mk H
      clear H
      obtain ⟨Ao229, co229, eo229⟩ := Kd.R_slice HO_62.out
      subst eo229
      have p379 : 0 ≤ (x69_12 : Int) := zd
      have q379 : x69_12 < (t373.length : Int) := zd
      obtain ⟨ad379, e379, hx379_0⟩ := Kd.at_int (Kd.R_reads' HO_62.out).2.2 x69_12 p379 q379
      cases e379
      replace p379 := eq_true p379
      replace q379 := eq_true q379
      have p383 : 0 ≤ (x69_12 : Int) := zd
      have q383 : x69_12 < (t373.length : Int) := zd
      obtain ⟨ad383, e383, hx383_0⟩ := Kd.at_int (Kd.R_reads' HO_62.out).2.2 x69_12 p383 q383
      obtain rfl : ad379 = ad383 := (by injection e383)
      replace p383 := eq_true p383
      replace q383 := eq_true q383
      have p384 : 0 ≤ (x69_12 : Int) := zd
      have q384 : x69_12 < (t373.length : Int) := zd
      obtain ⟨ad384, e384, hx384_0⟩ := Kd.at_int (Kd.R_reads' HO_62.out).2.2 x69_12 p384 q384
      obtain rfl : ad379 = ad384 := (by injection e384)
      replace p384 := eq_true p384
      replace q384 := eq_true q384
      go_wp2
      go_roundg k12
      case measure => have := HJ202.out; have := HK11.out; have := HK12.out; omega
      case rel => exact ⟨(x68_12), (wrap64 (x69_12 + 1)), zx, zx, H', ⟨by have := HJ202.out; have := HK11.out; have := HK12.out; omega⟩, ⟨zv HO_5.out⟩, ⟨zw HO_62.out⟩, ⟨by (with_reducible repeat (first | refine blk_drewN ?_ _ | refine blk_drew ?_ | refine blk_alloc ?_ _)); exact BK357.out⟩, ⟨by (with_reducible repeat (first | refine blk_drewN ?_ _ | refine blk_drew ?_ | refine blk_alloc ?_ _)); exact BK362.out⟩, ⟨zb2 HB.out GE357.out GE362.out⟩⟩
    rw [if_pos c223] at H
    have c223b0 : ((rd t373 x69_12) == x67_11) = true := beq_iff_eq.mpr c223
    have c223b1 : ((rd t373 x69_12) != x67_11) = false := bne_eq_false_iff_eq.mpr c223
    clear c223
    by_cases c224 : (rd t373 x69_12) < 0
    · rw [if_pos c224] at H
      exact absurd H (by simp)
    rw [if_neg c224] at H
    have c224b0 : decide ((rd t373 x69_12) < 0) = false := decide_eq_false c224
    clear c224
    by_cases c225 : (rd t373 x69_12) ≥ (wrap64 (1 + t367))
    · rw [if_pos c225] at H
      exact absurd H (by simp)
    rw [if_neg c225] at H
    have c225b0 : decide ((wrap64 (1 + t367)) ≤ (rd t373 x69_12)) = false := decide_eq_false c225
    clear c225
    have H' := Aside0.mk H
    clear H
    obtain ⟨Ao226, co226, eo226⟩ := Kd.R_slice HO_62.out
    subst eo226
    have p379 : 0 ≤ (x69_12 : Int) := zd
    have q379 : x69_12 < (t373.length : Int) := zd
    obtain ⟨ad379, e379, hx379_0⟩ := Kd.at_int (Kd.R_reads' HO_62.out).2.2 x69_12 p379 q379
    cases e379
    replace p379 := eq_true p379
    replace q379 := eq_true q379
    have p380 : 0 ≤ (x69_12 : Int) := zd
    have q380 : x69_12 < (t276.length : Int) := zd
    obtain ⟨ad380, e380, hx380_0, hx380_1, hx380_2⟩ := at_T33 (Kd.V_reads' HO_5.out).2.2 x69_12 p380 q380
    cases e380
    replace p380 := eq_true p380
    replace q380 := eq_true q380
    have p381 : 0 ≤ (x69_12 : Int) := zd
    have q381 : x69_12 < (t373.length : Int) := zd
    obtain ⟨ad381, e381, hx381_0⟩ := Kd.at_int (Kd.R_reads' HO_62.out).2.2 x69_12 p381 q381
    obtain rfl : ad379 = ad381 := (by injection e381)
    replace p381 := eq_true p381
    replace q381 := eq_true q381
    have p382 : 0 ≤ (x69_12 : Int) := zd
    have q382 : x69_12 < (t373.length : Int) := zd
    obtain ⟨ad382, e382, hx382_0⟩ := Kd.at_int (Kd.R_reads' HO_62.out).2.2 x69_12 p382 q382
    obtain rfl : ad379 = ad382 := (by injection e382)
    replace p382 := eq_true p382
    replace q382 := eq_true q382
    go_wp2
    go_roundg k12
    case measure => have := HJ202.out; have := HK11.out; have := HK12.out; omega
    case rel => exact ⟨(wrap64 (x68_12 + (wrap64 ((rd_T33 t276 x69_12).f0)))), (wrap64 (x69_12 + 1)), zx, zx, H', ⟨by have := HJ202.out; have := HK11.out; have := HK12.out; omega⟩, ⟨zv HO_5.out⟩, ⟨zw HO_62.out⟩, ⟨by (with_reducible repeat (first | refine blk_drewN ?_ _ | refine blk_drew ?_ | refine blk_alloc ?_ _)); exact BK357.out⟩, ⟨by (with_reducible repeat (first | refine blk_drewN ?_ _ | refine blk_drew ?_ | refine blk_alloc ?_ _)); exact BK362.out⟩, ⟨zb2 HB.out GE357.out GE362.out⟩⟩
set_option maxHeartbeats 8000000 in
set_option maxRecDepth 100000 in
theorem laws_FnPlies.p7 {A0 A1 Ao17 Ao88 Ao164 : Option Addr} {c0 c1 co17 co88 k6 co164 : Nat} {l0 l1 : List Int} {r : Bool} {w wc : World} {u70 u71 u72 u73 u74 u17 u18 u19 u20 u21 u22 u23 u24 u25 u26 u105 u106 u107 u108 u109 u110 u111 u112 u113 u114 u115 u116 u117 u118 u119 u120 u121 u122 u123 u124 u125 u126 u127 u128 u129 u130 u131 u132 u133 u134 u135 u136 u137 u138 u139 u140 u141 u142 u143 u144 u145 u146 u147 u148 u149 u150 u151 u152 u153 u154 u155 u156 u157 u158 u159 u160 u161 u162 u163 u164 u165 u166 u167 u168 u169 u170 u171 u172 u173 u174 u175 u176 u177 u178 u179 u180 u181 u182 u183 u184 u185 u186 u187 u188 u189 u190 u191 u192 u193 u194 u195 u196 u197 u198 u199 u200 u201 u202 u203 u204 u205 u206 u207 u208 u209 u210 u211 u212 u213 u214 u215 u216 u217 u218 u219 u220 u221 u222 u223 u224 u225 u226 u227 u228 u229 u230 u231 u232 u233 u234 u235 u236 u237 u238 u239 u240 u241 u242 u243 v314 u256 u257 u258 u259 u260 u261 u262 u263 u264 u265 u266 u267 u268 u269 u270 u271 u272 u273 u274 u275 u276 u277 u278 u279 u280 v323 u4 u38 u39 u40 u41 u42 u43 u44 u45 u289 u290 u291 u292 u293 u294 u295 u296 u297 u298 u299 u300 u301 u302 u303 u304 u305 u306 u307 u308 u309 u310 u311 u312 u313 u314 u315 u316 u317 u318 u319 u320 u321 u322 u323 u324 u325 u326 u327 u328 u329 u330 u331 u332 u333 u334 u335 u336 u337 u338 u339 u340 u341 u342 u343 u344 u345 u346 u347 u348 u349 u350 u351 u352 u353 u354 u355 u356 u357 u358 u359 u360 u361 u362 u363 u364 u365 u366 u367 u368 u369 u370 u371 u372 u373 u374 u375 u376 u377 u378 u379 u380 u381 u382 u383 u384 u385 u386 u387 u388 u389 u390 u391 u392 u393 u394 u395 : Value} {t276 x27_80 : List S33} {t279 t280 t281 t282 t283 t284 t285 t286 t287 t288 t289 t312 t313 t317 t318 x35_6 x36_6 x37_6 : Int} {t316 : List S41} {c : Code} (hcode : c = laws_FnPlies.tail 48) (HR1 : Aside0 ((Kd.int IntKind.u8).C w A1 l1.length l1)) (HC1 : Aside0 (l1.length ≤ c1)) (hcut : ∃ kq, Aside0 (j8 kq l1 t276 false = some r) ∧ Aside0 (kq ≤ k6) ∧ Aside0 (k33.V 33 wc w.heap.size (fun x => True) (Value.slice Ao17 t276.length co17) t276) ∧ Aside0 (Below w.heap.size w wc)) :
    Code.wp Try.prog c (bodyPost Try.prog Try.f3 fun e w' => e = Ending.returned (Value.bool r) ∧ Below w.heap.size w w') { tmps := #[Value.slice A0 l0.length c0, Value.slice A1 l1.length c1, undef, undef, u4, Value.slice Ao17 t276.length co17, Value.int IntKind.i64 (wrap64 (t279 - 150)), Value.int IntKind.i64 t280, Value.int IntKind.i64 t281, Value.int IntKind.i64 t282, Value.int IntKind.i64 t283, Value.int IntKind.i64 t284, Value.int IntKind.i64 t285, Value.int IntKind.i64 t286, Value.int IntKind.i64 t287, Value.int IntKind.i64 t288, Value.int IntKind.i64 t289, u17, u18, u19, u20, u21, u22, u23, u24, u25, u26, Value.slice Ao88 x27_80.length co88, v314, Value.int IntKind.i64 t312, Value.int IntKind.i64 t313, Value.slice Ao164 t316.length co164, Value.int IntKind.i64 t317, Value.int IntKind.i64 t318, v323, Value.int IntKind.i64 x35_6, Value.int IntKind.i64 x36_6, Value.int IntKind.i64 x37_6, u38, u39, u40, u41, u42, u43, u44, u45, undef, undef, undef, undef, undef, undef, undef, undef, undef, undef, undef, undef, undef, undef, undef, undef, undef, undef, undef, undef, undef, undef, undef, undef, u70, u71, u72, u73, u74, Value.bool false, Value.slice A0 l0.length c0, Value.slice Ao17 t276.length co17, Value.slice A1 l1.length c1, Value.int IntKind.i64 t279, Value.int IntKind.i64 (wrap64 (t279 - 150)), Value.tuple #[Value.int IntKind.i64 t280, Value.int IntKind.i64 t281, Value.int IntKind.i64 t282], Value.slice Ao17 t276.length co17, Value.tuple #[Value.int IntKind.i64 t280, Value.int IntKind.i64 t281, Value.int IntKind.i64 t282], Value.int IntKind.i64 t280, Value.int IntKind.i64 t281, Value.int IntKind.i64 t282, Value.tuple #[Value.int IntKind.i64 t283, Value.int IntKind.i64 t284, Value.int IntKind.i64 t285], Value.slice Ao17 t276.length co17, Value.tuple #[Value.int IntKind.i64 t283, Value.int IntKind.i64 t284, Value.int IntKind.i64 t285], Value.int IntKind.i64 t283, Value.int IntKind.i64 t284, Value.int IntKind.i64 t285, Value.tuple #[Value.int IntKind.i64 t286, Value.int IntKind.i64 t287], Value.slice Ao17 t276.length co17, Value.int IntKind.i64 (wrap64 (t279 - 150)), Value.tuple #[Value.int IntKind.i64 t286, Value.int IntKind.i64 t287], Value.int IntKind.i64 t286, Value.int IntKind.i64 t287, Value.tuple #[Value.int IntKind.i64 t288, Value.int IntKind.i64 t289], Value.slice Ao17 t276.length co17, Value.int IntKind.i64 (wrap64 (t279 - 150)), Value.tuple #[Value.int IntKind.i64 t288, Value.int IntKind.i64 t289], Value.int IntKind.i64 t288, Value.int IntKind.i64 t289, u105, u106, u107, u108, u109, u110, u111, u112, u113, u114, u115, u116, u117, u118, u119, u120, u121, u122, u123, u124, u125, u126, u127, u128, u129, u130, u131, u132, u133, u134, u135, u136, u137, u138, u139, u140, u141, u142, u143, u144, u145, u146, u147, u148, u149, u150, u151, u152, u153, u154, u155, u156, u157, u158, u159, u160, u161, u162, u163, u164, u165, u166, u167, u168, u169, u170, u171, u172, u173, u174, u175, u176, u177, u178, u179, u180, u181, u182, u183, u184, u185, u186, u187, u188, u189, u190, u191, u192, u193, u194, u195, u196, u197, u198, u199, u200, u201, u202, u203, u204, u205, u206, u207, u208, u209, u210, u211, u212, u213, u214, u215, u216, u217, u218, u219, u220, u221, u222, u223, u224, u225, u226, u227, u228, u229, u230, u231, u232, u233, u234, u235, u236, u237, u238, u239, u240, u241, u242, u243, Value.tuple #[v314, Value.int IntKind.i64 t312, Value.int IntKind.i64 t313], Value.slice Ao88 x27_80.length co88, Value.tuple #[v314, Value.int IntKind.i64 t312, Value.int IntKind.i64 t313], v314, Value.int IntKind.i64 t312, Value.int IntKind.i64 t313, Value.tuple #[Value.slice Ao164 t316.length co164, Value.int IntKind.i64 t317, Value.int IntKind.i64 t318], Value.slice Ao88 x27_80.length co88, Value.tuple #[Value.slice Ao164 t316.length co164, Value.int IntKind.i64 t317, Value.int IntKind.i64 t318], Value.slice Ao164 t316.length co164, Value.int IntKind.i64 t317, Value.int IntKind.i64 t318, u256, u257, u258, u259, u260, u261, u262, u263, u264, u265, u266, u267, u268, u269, u270, u271, u272, u273, u274, u275, u276, u277, u278, u279, u280, Value.bool false, Value.slice Ao88 x27_80.length co88, Value.int IntKind.i64 ↑x27_80.length, v323, Value.int IntKind.i64 x37_6, Value.slice Ao164 t316.length co164, Value.int IntKind.i64 ↑t316.length, Value.bool false, u289, u290, u291, u292, u293, u294, u295, u296, u297, u298, u299, u300, u301, u302, u303, u304, u305, u306, u307, u308, u309, u310, u311, u312, u313, u314, u315, u316, u317, u318, u319, u320, u321, u322, u323, u324, u325, u326, u327, u328, u329, u330, u331, u332, u333, u334, u335, u336, u337, u338, u339, u340, u341, u342, u343, u344, u345, u346, u347, u348, u349, u350, u351, u352, u353, u354, u355, u356, u357, u358, u359, u360, u361, u362, u363, u364, u365, u366, u367, u368, u369, u370, u371, u372, u373, u374, u375, u376, u377, u378, u379, u380, u381, u382, u383, u384, u385, u386, u387, u388, u389, u390, u391, u392, u393, u394, u395, Value.bool false, undef, undef, undef, undef, undef, undef, undef, undef, undef, undef, undef, undef, undef, undef, undef, undef, undef, undef, undef, undef, undef, undef, undef, undef, undef, undef, undef, undef, undef, undef, undef, undef, undef, undef, undef, undef, undef, undef, undef, undef, undef, undef, undef, undef, undef, undef, undef, undef, undef, undef, undef, undef, undef, undef, undef, undef, undef, undef, undef, undef, undef, undef, undef, undef, undef, undef, undef, undef, undef, undef, undef, undef, undef, undef, undef, undef, undef, undef, undef, undef, undef, undef, undef, undef, undef, undef, undef, undef, undef, undef, undef, undef, undef, undef, undef, undef, undef, undef, undef, undef, undef, undef, undef, undef, undef, undef, undef, undef, undef, undef, undef, undef, undef, undef, undef, undef, undef, undef, undef, undef, undef, undef, undef, undef, undef, undef, undef, undef, undef, undef, undef, undef, undef, undef, undef, undef, undef, undef, undef, undef, undef, undef, undef, undef, undef, undef, undef, undef, undef, undef, undef, undef, undef, undef, undef, undef, undef, undef, undef, undef, undef, undef, undef, undef, undef, undef, undef, undef, undef, undef, undef, undef, undef, undef, undef, undef, undef, undef, undef, undef, undef, undef, undef], defers := [] } wc := by
 have hu33 := Try.underlying33
 have hu43 := Try.underlying43
 subst hcode
 conv => arg 2; whnf
 obtain ⟨kq, HA, HJ162, HO_5, HB⟩ := hcut
 cases kq with
 | zero => exact absurd HA.out (by simp [laws_FnPlies.j8])
 | succ kj162 =>
  have H := HA.out
  clear HA
  simp only [laws_FnPlies.j8] at H
  have H1 : (if (t276.length : Int) = 0 then ((impl_WeakestOf.f kj162 t276).bind fun bt348 => (some (bt348.2.2.2 == 6))) else ((impl_WeakestOf.f kj162 t276).bind fun bt353 => ((spec_WeakestOf.f kj162 t276).bind fun bt358 => (if bt353.2.2.2 = bt358.2.2.2 then (if bt353.2.2.2 = 0 then (if bt353.1 = bt358.1 then (laws_FnPlies.j9 kj162 l1 t276 bt358.1 (!(bt353.2.1 == bt358.2.1) || (!(bt353.2.2.1 == bt358.2.2.1)))) else (laws_FnPlies.j9 kj162 l1 t276 bt358.1 true)) else (laws_FnPlies.j9 kj162 l1 t276 bt358.1 true)) else (laws_FnPlies.j9 kj162 l1 t276 bt358.1 true))))) = some r := by rw [if_neg (show ¬ (false = true) by decide)] at H; exact H
  clear H
  have H := H1
  clear H1
  by_cases c167 : (t276.length : Int) = 0
  · rw [if_pos c167] at H
    have c167b0 : ((t276.length : Int) == 0) = true := beq_iff_eq.mpr c167
    have c167b1 : ((t276.length : Int) != 0) = false := bne_eq_false_iff_eq.mpr c167
    clear c167
    replace H := Option.bind_eq_some_iff.mp H
    obtain ⟨⟨t348, t349, t350, t351⟩, A1680, H⟩ := H
    replace H : (some (t351 == 6)) = some r := H
    have A168 := Aside0.mk A1680
    clear A1680
    obtain rfl := Option.some.inj H
    go_wp2_with (first | ((with_reducible refine gate_callee (f := 18) rfl ?_); refine goesL_ (some 402) rfl rfl Try.func18 (by kernel_rfl) rfl #[.slice Ao17 t276.length co17] rfl zr ?_; (with_reducible refine (impl_WeakestOf.calls kj162 _ _ t276 t348 t349 t350 t351 _ ?side1 ?side2 A168.out).mono ?_); (case side1 => exact zk (Kd.V_reads' HO_5.out).2.2); (case side2 => exact (Kd.V_reads' HO_5.out).2.1); rintro e w169 ⟨rfl, hb⟩; refine ⟨_, rfl, ?_⟩; refine up2 (Kd.V_below (zv HO_5.out) hb) (below_step (zb HB.out) hb) ?_; clear HO_5 HB; intro HO_5 HB; (try clear hb); (try clear hb2); (try clear hk); (try clear hi)) | ((with_reducible refine gate_dst (N := 47) rfl ?_); (try (refine gate_guard (by rfl) ?_; dsimp only)); refine box_event ?hg (N := 47) ?hd (cs := #[.int .i64 0, .int .i64 0]) (t := 43) ?hr ?_; (case hd => rfl); (case hg => rfl); (case hr => first | (go_simp; done) | (go_simp; rfl)); intro gb352 hg w170 hbox hb; refine up5 (Kd.V_below (Kd.V_elderB (zv HO_5.out) gb352 (Nat.le_of_eq hg.symm)) hb) (below_step (zb HB.out) hb) (hbox) ((by rw [hg]; exact (below_size (zb HB.out)) : w.heap.size ≤ gb352)) ((by rw [hg]; exact (below_size (zb HB.out)) : w.heap.size ≤ gb352)) ?_; clear HO_5 HB; intro HO_5 HB BK352 GW352 GE352; clear hb hbox hg; have hcz171_0 : w170.cell? ⟨gb352, 0, none⟩ = some (.int .i64 0) := (blk_cell BK352.out 0).trans rfl; have hcz171_1 : w170.cell? ⟨gb352, 1, none⟩ = some (.int .i64 0) := (blk_cell BK352.out 1).trans rfl; have hfz171_0 := blk_frozen BK352.out 0; have hfz171_1 := blk_frozen BK352.out 1))
    go_ret
    exact ⟨zs, zb1 HB.out GE352.out⟩
  rw [if_neg c167] at H
  have c167b0 : ((t276.length : Int) == 0) = false := beq_eq_false_iff_ne.mpr c167
  have c167b1 : ((t276.length : Int) != 0) = true := bne_iff_ne.mpr c167
  have c167b2 : ¬ (t276 = []) := fun h_ => c167 (by rw [h_]; rfl)
  replace H := Option.bind_eq_some_iff.mp H
  obtain ⟨⟨t353, t354, t355, t356⟩, A1720, H⟩ := H
  replace H : ((spec_WeakestOf.f kj162 t276).bind fun bt358 => (if t356 = bt358.2.2.2 then (if t356 = 0 then (if t353 = bt358.1 then (laws_FnPlies.j9 kj162 l1 t276 bt358.1 (!(t354 == bt358.2.1) || (!(t355 == bt358.2.2.1)))) else (laws_FnPlies.j9 kj162 l1 t276 bt358.1 true)) else (laws_FnPlies.j9 kj162 l1 t276 bt358.1 true)) else (laws_FnPlies.j9 kj162 l1 t276 bt358.1 true))) = some r := H
  have A172 := Aside0.mk A1720
  clear A1720
  replace H := Option.bind_eq_some_iff.mp H
  obtain ⟨⟨t358, t359, t360, t361⟩, A1730, H⟩ := H
  replace H : (if t356 = t361 then (if t356 = 0 then (if t353 = t358 then (laws_FnPlies.j9 kj162 l1 t276 t358 (!(t354 == t359) || (!(t355 == t360)))) else (laws_FnPlies.j9 kj162 l1 t276 t358 true)) else (laws_FnPlies.j9 kj162 l1 t276 t358 true)) else (laws_FnPlies.j9 kj162 l1 t276 t358 true)) = some r := H
  have A173 := Aside0.mk A1730
  clear A1730
  have HC174 := Aside0.mk H
  clear H
  go_upto_region 53 with (first | ((with_reducible refine gate_callee (f := 18) rfl ?_); refine goesL_ (some 410) rfl rfl Try.func18 (by kernel_rfl) rfl #[.slice Ao17 t276.length co17] rfl zr ?_; (with_reducible refine (impl_WeakestOf.calls kj162 _ _ t276 t353 t354 t355 t356 _ ?side1 ?side2 A172.out).mono ?_); (case side1 => exact zk (Kd.V_reads' HO_5.out).2.2); (case side2 => exact (Kd.V_reads' HO_5.out).2.1); rintro e w175 ⟨rfl, hb⟩; refine ⟨_, rfl, ?_⟩; refine up2 (Kd.V_below (zv HO_5.out) hb) (below_step (zb HB.out) hb) ?_; clear HO_5 HB; intro HO_5 HB; (try clear hb); (try clear hb2); (try clear hk); (try clear hi)) | ((with_reducible refine gate_dst (N := 50) rfl ?_); (try (refine gate_guard (by rfl) ?_; dsimp only)); refine box_event ?hg (N := 50) ?hd (cs := #[.int .i64 0, .int .i64 0]) (t := 43) ?hr ?_; (case hd => rfl); (case hg => rfl); (case hr => first | (go_simp; done) | (go_simp; rfl)); intro gb357 hg w176 hbox hb; refine up5 (Kd.V_below (Kd.V_elderB (zv HO_5.out) gb357 (Nat.le_of_eq hg.symm)) hb) (below_step (zb HB.out) hb) (hbox) ((by rw [hg]; exact (below_size (zb HB.out)) : w.heap.size ≤ gb357)) ((by rw [hg]; exact (below_size (zb HB.out)) : w.heap.size ≤ gb357)) ?_; clear HO_5 HB; intro HO_5 HB BK357 GW357 GE357; clear hb hbox hg; have hcz177_0 : w176.cell? ⟨gb357, 0, none⟩ = some (.int .i64 0) := (blk_cell BK357.out 0).trans rfl; have hcz177_1 : w176.cell? ⟨gb357, 1, none⟩ = some (.int .i64 0) := (blk_cell BK357.out 1).trans rfl; have hfz177_0 := blk_frozen BK357.out 0; have hfz177_1 := blk_frozen BK357.out 1) | ((with_reducible refine gate_callee (f := 19) rfl ?_); refine goesL_ (some 416) rfl rfl Try.func19 (by kernel_rfl) rfl #[.slice Ao17 t276.length co17] rfl zr ?_; (with_reducible refine (spec_WeakestOf.calls kj162 _ _ t276 t358 t359 t360 t361 _ ?side1 ?side2 A173.out).mono ?_); (case side1 => refine (Kd.V_reads' (e := 33) (base := w.heap.size) (ok := fun k_ => (True ∧ k_ ≠ gb357)) (n := t276.length) (c := co17) ?_).2.2; exact (by (with_reducible repeat (first | apply Kd.V_alloc | apply Kd.V_drewN | apply Kd.V_drew)); exact (Kd.V_mono (Kd.V_far (p := ⟨gb357, 1, none⟩) (Kd.V_far (p := ⟨gb357, 0, none⟩) (Kd.V_mono HO_5.out (fun k_ hk => (⟨hk, hk.2⟩ : _ ∧ k_ ≠ gb357))) (fun _ hk => hk.2) (.int .i64 t354)) (fun _ hk => hk.2) (.int .i64 t355)) (fun _ h_ => h_.1)))); (case side2 => exact (Kd.V_reads' HO_5.out).2.1); rintro e w178 ⟨rfl, hb⟩; refine ⟨_, rfl, ?_⟩; refine up3 (Kd.V_below (by (with_reducible repeat (first | apply Kd.V_alloc | apply Kd.V_drewN | apply Kd.V_drew)); exact (Kd.V_mono (Kd.V_far (p := ⟨gb357, 1, none⟩) (Kd.V_far (p := ⟨gb357, 0, none⟩) (Kd.V_mono HO_5.out (fun k_ hk => (⟨hk, hk.2⟩ : _ ∧ k_ ≠ gb357))) (fun _ hk => hk.2) (.int .i64 t354)) (fun _ hk => hk.2) (.int .i64 t355)) (fun _ h_ => h_.1))) hb) (blk_below (g := gb357) (o := .cells #[.int .i64 t354, .int .i64 t355] 43 (0, 0)) (by (with_reducible repeat (first | refine blk_drewN ?_ _ | refine blk_drew ?_ | refine blk_alloc ?_ _)); refine blk_put (cs := #[.int .i64 t354, .int .i64 0]) ?_ 1 _ rfl; (with_reducible repeat (first | refine blk_drewN ?_ _ | refine blk_drew ?_ | refine blk_alloc ?_ _)); refine blk_put (cs := #[.int .i64 0, .int .i64 0]) ?_ 0 _ rfl; (with_reducible repeat (first | refine blk_drewN ?_ _ | refine blk_drew ?_ | refine blk_alloc ?_ _)); exact BK357.out) hb) (below_step (zb1 HB.out GE357.out) hb) ?_; clear HO_5 BK357 HB; intro HO_5 BK357 HB; (try clear hb); (try clear hb2); (try clear hk); (try clear hi)) | ((with_reducible refine gate_dst (N := 53) rfl ?_); (try (refine gate_guard (by rfl) ?_; dsimp only)); refine box_event ?hg (N := 53) ?hd (cs := #[.int .i64 0, .int .i64 0]) (t := 43) ?hr ?_; (case hd => rfl); (case hg => rfl); (case hr => first | (go_simp; done) | (go_simp; rfl)); intro gb362 hg w179 hbox hb; refine up8 (Kd.V_below (Kd.V_elderB (zv HO_5.out) gb362 (Nat.le_of_eq hg.symm)) hb) (blk_below (g := gb357) (o := .cells #[.int .i64 t354, .int .i64 t355] 43 (0, 0)) (zq BK357.out) hb) (below_step (zb1 HB.out GE357.out) hb) (hbox) ((by rw [hg]; exact (below_size (zb1 HB.out GE357.out)) : w.heap.size ≤ gb362)) ((by rw [hg]; exact (below_size (zb1 HB.out GE357.out)) : w.heap.size ≤ gb362)) ((by rw [hg]; exact Nat.ne_of_lt (blk_lt (g := gb357) (o := .cells #[.int .i64 t354, .int .i64 t355] 43 (0, 0)) (zq BK357.out)) : gb357 ≠ gb362)) ((by rw [hg]; exact Nat.ne_of_gt (blk_lt (g := gb357) (o := .cells #[.int .i64 t354, .int .i64 t355] 43 (0, 0)) (zq BK357.out)) : gb362 ≠ gb357)) ?_; clear HO_5 BK357 HB; intro HO_5 BK357 HB BK362 GW362 GE362 NB357_362 NB362_357; clear hb hbox hg; have hnb180 := NB362_357.out; have hnc180 := NB357_362.out; have hcz181_0 : w179.cell? ⟨gb362, 0, none⟩ = some (.int .i64 0) := (blk_cell BK362.out 0).trans rfl; have hcz181_1 : w179.cell? ⟨gb362, 1, none⟩ = some (.int .i64 0) := (blk_cell BK362.out 1).trans rfl; have hfz181_0 := blk_frozen BK362.out 0; have hfz181_1 := blk_frozen BK362.out 1))
  (try simp only [Act.put, List.setIfInBounds_toArray, List.set_cons_zero, List.set_cons_succ])
  go_cut [436] from 1000 to 1001 (fun v436 wc => ∃ (kq : Nat) (x436_173 : Bool), v436 = .bool x436_173 ∧ Aside0 (laws_FnPlies.j9 kq l1 t276 t358 x436_173 = some r) ∧ Aside0 (kq ≤ kj162) ∧ Aside0 (Kd.V k33 33 wc w.heap.size (fun k_ => k_ ≠ gb357 ∧ k_ ≠ gb362) (.slice Ao17 t276.length co17) t276) ∧ Aside0 (wc.heap[gb357]? = some (.cells #[.int .i64 t354, .int .i64 t355] 43 (0, 0))) ∧ Aside0 (wc.heap[gb362]? = some (.cells #[.int .i64 t359, .int .i64 t360] 43 (0, 0))) ∧ Aside0 (Below w.heap.size w wc))
  case first =>
   have H := HC174.out
   clear HC174
   by_cases c182 : t356 = t361
   rotate_left
   · rw [if_neg c182] at H
     have c182b0 : (t356 == t361) = false := beq_eq_false_iff_ne.mpr c182
     have c182b1 : (t356 != t361) = true := bne_iff_ne.mpr c182
     (first | rw [c182b0] | (simp only [i64_w, i32_w]; rw [c182b0]) | skip)
     have H' := Aside0.mk H
     clear H
     go_wp2
     go_meet
     case rel => exact ⟨_, (true), zx, H', ⟨by have := HJ162.out; first | omega | exact Nat.le_refl _⟩, ⟨by (with_reducible repeat (first | apply Kd.V_alloc | apply Kd.V_drewN | apply Kd.V_drew)); exact Kd.V_mono (Kd.V_far (p := ⟨gb362, 1, none⟩) (Kd.V_far (p := ⟨gb362, 0, none⟩) (Kd.V_mono HO_5.out (fun k_ hk => (⟨hk, hk.2⟩ : _ ∧ k_ ≠ gb362))) (fun _ hk => hk.2) (.int .i64 t359)) (fun _ hk => hk.2) (.int .i64 t360)) (fun _ hk => ⟨hk.1.1.2, hk.1.2⟩)⟩, ⟨by (with_reducible repeat (first | refine blk_drewN ?_ _ | refine blk_drew ?_ | refine blk_alloc ?_ _)); refine blk_far ?_ NB357_362.out _; (with_reducible repeat (first | refine blk_drewN ?_ _ | refine blk_drew ?_ | refine blk_alloc ?_ _)); refine blk_far ?_ NB357_362.out _; (with_reducible repeat (first | refine blk_drewN ?_ _ | refine blk_drew ?_ | refine blk_alloc ?_ _)); exact BK357.out⟩, ⟨by (with_reducible repeat (first | refine blk_drewN ?_ _ | refine blk_drew ?_ | refine blk_alloc ?_ _)); refine blk_put (cs := #[.int .i64 t359, .int .i64 0]) ?_ 1 _ rfl; (with_reducible repeat (first | refine blk_drewN ?_ _ | refine blk_drew ?_ | refine blk_alloc ?_ _)); refine blk_put (cs := #[.int .i64 0, .int .i64 0]) ?_ 0 _ rfl; (with_reducible repeat (first | refine blk_drewN ?_ _ | refine blk_drew ?_ | refine blk_alloc ?_ _)); exact BK362.out⟩, ⟨zb2 HB.out GE357.out GE362.out⟩⟩
   rw [if_pos c182] at H
   have c182b0 : (t356 == t361) = true := beq_iff_eq.mpr c182
   have c182b1 : (t356 != t361) = false := bne_eq_false_iff_eq.mpr c182
   clear c182
   (first | rw [c182b0] | (simp only [i64_w, i32_w]; rw [c182b0]) | skip)
   by_cases c183 : t356 = 0
   rotate_left
   · rw [if_neg c183] at H
     have c183b0 : (t356 == 0) = false := beq_eq_false_iff_ne.mpr c183
     have c183b1 : (t356 != 0) = true := bne_iff_ne.mpr c183
     have H' := Aside0.mk H
     clear H
     go_wp2
     go_meet
     case rel => exact ⟨_, (true), zx, H', ⟨by have := HJ162.out; first | omega | exact Nat.le_refl _⟩, ⟨by (with_reducible repeat (first | apply Kd.V_alloc | apply Kd.V_drewN | apply Kd.V_drew)); exact Kd.V_mono (Kd.V_far (p := ⟨gb362, 1, none⟩) (Kd.V_far (p := ⟨gb362, 0, none⟩) (Kd.V_mono HO_5.out (fun k_ hk => (⟨hk, hk.2⟩ : _ ∧ k_ ≠ gb362))) (fun _ hk => hk.2) (.int .i64 t359)) (fun _ hk => hk.2) (.int .i64 t360)) (fun _ hk => ⟨hk.1.1.2, hk.1.2⟩)⟩, ⟨by (with_reducible repeat (first | refine blk_drewN ?_ _ | refine blk_drew ?_ | refine blk_alloc ?_ _)); refine blk_far ?_ NB357_362.out _; (with_reducible repeat (first | refine blk_drewN ?_ _ | refine blk_drew ?_ | refine blk_alloc ?_ _)); refine blk_far ?_ NB357_362.out _; (with_reducible repeat (first | refine blk_drewN ?_ _ | refine blk_drew ?_ | refine blk_alloc ?_ _)); exact BK357.out⟩, ⟨by (with_reducible repeat (first | refine blk_drewN ?_ _ | refine blk_drew ?_ | refine blk_alloc ?_ _)); refine blk_put (cs := #[.int .i64 t359, .int .i64 0]) ?_ 1 _ rfl; (with_reducible repeat (first | refine blk_drewN ?_ _ | refine blk_drew ?_ | refine blk_alloc ?_ _)); refine blk_put (cs := #[.int .i64 0, .int .i64 0]) ?_ 0 _ rfl; (with_reducible repeat (first | refine blk_drewN ?_ _ | refine blk_drew ?_ | refine blk_alloc ?_ _)); exact BK362.out⟩, ⟨zb2 HB.out GE357.out GE362.out⟩⟩
   rw [if_pos c183] at H
   have c183b0 : (t356 == 0) = true := beq_iff_eq.mpr c183
   have c183b1 : (t356 != 0) = false := bne_eq_false_iff_eq.mpr c183
   clear c183
   by_cases c184 : t353 = t358
   rotate_left
   · rw [if_neg c184] at H
     have c184b0 : (t353 == t358) = false := beq_eq_false_iff_ne.mpr c184
     have c184b1 : (t353 != t358) = true := bne_iff_ne.mpr c184
     have H' := Aside0.mk H
     clear H
     go_wp2
     go_meet
     case rel => exact ⟨_, (true), zx, H', ⟨by have := HJ162.out; first | omega | exact Nat.le_refl _⟩, ⟨by (with_reducible repeat (first | apply Kd.V_alloc | apply Kd.V_drewN | apply Kd.V_drew)); exact Kd.V_mono (Kd.V_far (p := ⟨gb362, 1, none⟩) (Kd.V_far (p := ⟨gb362, 0, none⟩) (Kd.V_mono HO_5.out (fun k_ hk => (⟨hk, hk.2⟩ : _ ∧ k_ ≠ gb362))) (fun _ hk => hk.2) (.int .i64 t359)) (fun _ hk => hk.2) (.int .i64 t360)) (fun _ hk => ⟨hk.1.1.2, hk.1.2⟩)⟩, ⟨by (with_reducible repeat (first | refine blk_drewN ?_ _ | refine blk_drew ?_ | refine blk_alloc ?_ _)); refine blk_far ?_ NB357_362.out _; (with_reducible repeat (first | refine blk_drewN ?_ _ | refine blk_drew ?_ | refine blk_alloc ?_ _)); refine blk_far ?_ NB357_362.out _; (with_reducible repeat (first | refine blk_drewN ?_ _ | refine blk_drew ?_ | refine blk_alloc ?_ _)); exact BK357.out⟩, ⟨by (with_reducible repeat (first | refine blk_drewN ?_ _ | refine blk_drew ?_ | refine blk_alloc ?_ _)); refine blk_put (cs := #[.int .i64 t359, .int .i64 0]) ?_ 1 _ rfl; (with_reducible repeat (first | refine blk_drewN ?_ _ | refine blk_drew ?_ | refine blk_alloc ?_ _)); refine blk_put (cs := #[.int .i64 0, .int .i64 0]) ?_ 0 _ rfl; (with_reducible repeat (first | refine blk_drewN ?_ _ | refine blk_drew ?_ | refine blk_alloc ?_ _)); exact BK362.out⟩, ⟨zb2 HB.out GE357.out GE362.out⟩⟩
   rw [if_pos c184] at H
   have c184b0 : (t353 == t358) = true := beq_iff_eq.mpr c184
   have c184b1 : (t353 != t358) = false := bne_eq_false_iff_eq.mpr c184
   clear c184
   have H' := Aside0.mk H
   clear H
   have hnb185 := NB357_362.out
   have hnc185 := NB362_357.out
   have hcz186_0 : w179.cell? ⟨gb357, 0, none⟩ = some (.int .i64 t354) := (blk_cell BK357.out 0).trans rfl
   have hcz186_1 : w179.cell? ⟨gb357, 1, none⟩ = some (.int .i64 t355) := (blk_cell BK357.out 1).trans rfl
   have hfz186_0 := blk_frozen BK357.out 0
   have hfz186_1 := blk_frozen BK357.out 1
   have hcz187_0 : w179.cell? ⟨gb362, 0, none⟩ = some (.int .i64 0) := (blk_cell BK362.out 0).trans rfl
   have hcz187_1 : w179.cell? ⟨gb362, 1, none⟩ = some (.int .i64 0) := (blk_cell BK362.out 1).trans rfl
   have hfz187_0 := blk_frozen BK362.out 0
   have hfz187_1 := blk_frozen BK362.out 1
   go_wp2
   go_meet
   case rel => exact ⟨_, ((!(t354 == t359) || (!(t355 == t360)))), zx, H', ⟨by have := HJ162.out; first | omega | exact Nat.le_refl _⟩, ⟨by (with_reducible repeat (first | apply Kd.V_alloc | apply Kd.V_drewN | apply Kd.V_drew)); exact Kd.V_mono (Kd.V_far (p := ⟨gb362, 1, none⟩) (Kd.V_far (p := ⟨gb362, 0, none⟩) (Kd.V_mono HO_5.out (fun k_ hk => (⟨hk, hk.2⟩ : _ ∧ k_ ≠ gb362))) (fun _ hk => hk.2) (.int .i64 t359)) (fun _ hk => hk.2) (.int .i64 t360)) (fun _ hk => ⟨hk.1.1.2, hk.1.2⟩)⟩, ⟨by (with_reducible repeat (first | refine blk_drewN ?_ _ | refine blk_drew ?_ | refine blk_alloc ?_ _)); refine blk_far ?_ NB357_362.out _; (with_reducible repeat (first | refine blk_drewN ?_ _ | refine blk_drew ?_ | refine blk_alloc ?_ _)); refine blk_far ?_ NB357_362.out _; (with_reducible repeat (first | refine blk_drewN ?_ _ | refine blk_drew ?_ | refine blk_alloc ?_ _)); exact BK357.out⟩, ⟨by (with_reducible repeat (first | refine blk_drewN ?_ _ | refine blk_drew ?_ | refine blk_alloc ?_ _)); refine blk_put (cs := #[.int .i64 t359, .int .i64 0]) ?_ 1 _ rfl; (with_reducible repeat (first | refine blk_drewN ?_ _ | refine blk_drew ?_ | refine blk_alloc ?_ _)); refine blk_put (cs := #[.int .i64 0, .int .i64 0]) ?_ 0 _ rfl; (with_reducible repeat (first | refine blk_drewN ?_ _ | refine blk_drew ?_ | refine blk_alloc ?_ _)); exact BK362.out⟩, ⟨zb2 HB.out GE357.out GE362.out⟩⟩
  case rest =>
  clear HC174
  try clear c166
  try clear c167
  try clear c167b0
  try clear c167b1
  try clear c167b2
  try clear hcz177_0
  try clear hcz177_1
  try clear hcz181_0
  try clear hcz181_1
  try clear hfz177_0
  try clear hfz177_1
  try clear hfz181_0
  try clear hfz181_1
  obtain ⟨kq, x436_173, rfl, HA, HJ173, HO_5, BK357, BK362, HB⟩ := hcut
  cases kq with
  | zero => exact absurd HA.out (by simp [laws_FnPlies.j9])
  | succ kj173 =>
   have H := HA.out
   clear HA
   simp only [laws_FnPlies.j9] at H
   by_cases c188 : x436_173 = true
   · subst c188
     have H1 : (none) = some r := by rw [if_pos rfl] at H; exact H
     clear H
     have H := H1
     clear H1
     exact absurd H (by simp)
   replace c188 := Bool.eq_false_iff.mpr c188
   subst c188
   have H1 : (laws_FnPlies.l1 kj173 l1 t276 t358 0) = some r := by rw [if_neg (show ¬ (false = true) by decide)] at H; exact H
   clear H
   have H := H1
   clear H1
   have H' := Aside0.mk H
   clear H
   go_wp2
   go_loopg [55] kj173 (fun kq v55 w' => ∃ (x55_9 : Int), v55 = .int .i64 x55_9 ∧ Aside0 (laws_FnPlies.l1 kq l1 t276 t358 x55_9 = some r) ∧ Aside0 (kq ≤ kj173) ∧ Aside0 (Kd.V k33 33 w' w.heap.size (fun k_ => k_ ≠ gb357 ∧ k_ ≠ gb362) (.slice Ao17 t276.length co17) t276) ∧ Aside0 (w'.heap[gb357]? = some (.cells #[.int .i64 t354, .int .i64 t355] 43 (0, 0))) ∧ Aside0 (w'.heap[gb362]? = some (.cells #[.int .i64 t359, .int .i64 t360] 43 (0, 0))) ∧ Aside0 (Below w.heap.size w w'))
   case atStart => exact ⟨(0), zx, H', ⟨Nat.le_refl _⟩, ⟨zv HO_5.out⟩, ⟨by (with_reducible repeat (first | refine blk_drewN ?_ _ | refine blk_drew ?_ | refine blk_alloc ?_ _)); exact BK357.out⟩, ⟨by (with_reducible repeat (first | refine blk_drewN ?_ _ | refine blk_drew ?_ | refine blk_alloc ?_ _)); exact BK362.out⟩, ⟨zb2 HB.out GE357.out GE362.out⟩⟩
   case round =>
   clear H'
   try clear c188
   obtain ⟨x55_9, rfl, HA, HK9, HO_5, BK357, BK362, HB⟩ := hrel
   cases gk with
   | zero => exact absurd HA.out (by simp [laws_FnPlies.l1])
   | succ k9 =>
    have H := HA.out
    clear HA
    simp only [laws_FnPlies.l1] at H
    by_cases c189 : x55_9 < (t276.length : Int)
    rotate_left
    · rw [if_neg c189] at H
      have c189b0 : decide (x55_9 < (t276.length : Int)) = false := decide_eq_false c189
      clear c189
      replace H := Option.bind_eq_some_iff.mp H
      obtain ⟨t367, A2000, H⟩ := H
      replace H : ((impl_EvenPlies.f k9 t276 (wrap64 (1 + t367))).bind fun bt368 => ((spec_EvenPlies.f k9 t276 (wrap64 (1 + t367))).bind fun bt373 => (if bt368.2.2 = bt373.2.2 then (if bt368.2.2 = 0 then ((spec_SameNumbers.f k9 bt368.1 bt373.1).bind fun t378 => (if t378 = true then (if bt368.2.1 = bt373.2.1 then (laws_FnPlies.j11 k9 t276 (wrap64 (1 + t367)) bt373.1 bt373.2.1 ((bt373.1.length : Int) != (t276.length : Int))) else (laws_FnPlies.j11 k9 t276 (wrap64 (1 + t367)) bt373.1 bt373.2.1 true)) else (laws_FnPlies.j11 k9 t276 (wrap64 (1 + t367)) bt373.1 bt373.2.1 true))) else (laws_FnPlies.j11 k9 t276 (wrap64 (1 + t367)) bt373.1 bt373.2.1 true)) else (laws_FnPlies.j11 k9 t276 (wrap64 (1 + t367)) bt373.1 bt373.2.1 true)))) = some r := H
      have A200 := Aside0.mk A2000
      clear A2000
      replace H := Option.bind_eq_some_iff.mp H
      obtain ⟨⟨t368, t369, t370⟩, A2010, H⟩ := H
      replace H : ((spec_EvenPlies.f k9 t276 (wrap64 (1 + t367))).bind fun bt373 => (if t370 = bt373.2.2 then (if t370 = 0 then ((spec_SameNumbers.f k9 t368 bt373.1).bind fun t378 => (if t378 = true then (if t369 = bt373.2.1 then (laws_FnPlies.j11 k9 t276 (wrap64 (1 + t367)) bt373.1 bt373.2.1 ((bt373.1.length : Int) != (t276.length : Int))) else (laws_FnPlies.j11 k9 t276 (wrap64 (1 + t367)) bt373.1 bt373.2.1 true)) else (laws_FnPlies.j11 k9 t276 (wrap64 (1 + t367)) bt373.1 bt373.2.1 true))) else (laws_FnPlies.j11 k9 t276 (wrap64 (1 + t367)) bt373.1 bt373.2.1 true)) else (laws_FnPlies.j11 k9 t276 (wrap64 (1 + t367)) bt373.1 bt373.2.1 true))) = some r := H
      have A201 := Aside0.mk A2010
      clear A2010
      replace H := Option.bind_eq_some_iff.mp H
      obtain ⟨⟨t373, t374, t375⟩, A2020, H⟩ := H
      replace H : (if t370 = t375 then (if t370 = 0 then ((spec_SameNumbers.f k9 t368 t373).bind fun t378 => (if t378 = true then (if t369 = t374 then (laws_FnPlies.j11 k9 t276 (wrap64 (1 + t367)) t373 t374 ((t373.length : Int) != (t276.length : Int))) else (laws_FnPlies.j11 k9 t276 (wrap64 (1 + t367)) t373 t374 true)) else (laws_FnPlies.j11 k9 t276 (wrap64 (1 + t367)) t373 t374 true))) else (laws_FnPlies.j11 k9 t276 (wrap64 (1 + t367)) t373 t374 true)) else (laws_FnPlies.j11 k9 t276 (wrap64 (1 + t367)) t373 t374 true)) = some r := H
      have A202 := Aside0.mk A2020
      clear A2020
      have HC203 := Aside0.mk H
      clear H
      go_upto_region 65 with (first | ((with_reducible refine gate_callee (f := 6) rfl ?_); refine goesL_ (some 485) rfl rfl Try.func6 (by kernel_rfl) rfl #[.slice A1 l1.length c1, .int .i64 (t276.length : Int)] rfl zr ?_; (with_reducible refine (spec_P6Pick.calls _ _ l1 (t276.length : Int) t367 _ ?side1 ?side2 A200.out).mono ?_); (case side1 => exact zk (Kd.C_below HR1.out HB.out)); (case side2 => exact HC1.out); rintro e w204 ⟨rfl, hb⟩; refine ⟨_, rfl, ?_⟩; refine up4 (Kd.V_below (zv HO_5.out) hb) (blk_below (g := gb357) (o := .cells #[.int .i64 t354, .int .i64 t355] 43 (0, 0)) (zq BK357.out) hb) (blk_below (g := gb362) (o := .cells #[.int .i64 t359, .int .i64 t360] 43 (0, 0)) (zq BK362.out) hb) (below_step (zb2 HB.out GE357.out GE362.out) hb) ?_; clear HO_5 BK357 BK362 HB; intro HO_5 BK357 BK362 HB; (try clear hb); (try clear hb2); (try clear hk); (try clear hi)) | ((with_reducible refine gate_callee (f := 20) rfl ?_); refine goesL_ (some 490) rfl rfl Try.func20 (by kernel_rfl) rfl #[.slice Ao17 t276.length co17, .int .i64 (wrap64 (1 + t367))] rfl zr ?_; (with_reducible refine (impl_EvenPlies.calls k9 _ _ t276 (wrap64 (1 + t367)) t368 t369 t370 _ ?side1 ?side2 A201.out).mono ?_); (case side1 => exact zk (Kd.V_reads' HO_5.out).2.2); (case side2 => exact (Kd.V_reads' HO_5.out).2.1); rintro e w205 ⟨v371, rfl, ho0, hb⟩; refine ⟨_, rfl, ?_⟩; refine up5 (Kd.V_elder' (zv HO_5.out) (Kd.R_base ho0) hb) (Kd.R_lower ho0 (below_size (zb2 HB.out GE357.out GE362.out))) (blk_below (g := gb357) (o := .cells #[.int .i64 t354, .int .i64 t355] 43 (0, 0)) (zq BK357.out) hb) (blk_below (g := gb362) (o := .cells #[.int .i64 t359, .int .i64 t360] 43 (0, 0)) (zq BK362.out) hb) (below_step (zb2 HB.out GE357.out GE362.out) hb) ?_; clear HO_5 BK357 BK362 HB; intro HO_5 HO372 BK357 BK362 HB; (try clear hb); (try clear hb2); (try clear hk); (try clear hi); (try clear ho0)) | ((with_reducible refine gate_callee (f := 21) rfl ?_); refine goesL_ (some 497) rfl rfl Try.func21 (by kernel_rfl) rfl #[.slice Ao17 t276.length co17, .int .i64 (wrap64 (1 + t367))] rfl zr ?_; (with_reducible refine (spec_EvenPlies.calls k9 _ _ t276 (wrap64 (1 + t367)) t373 t374 t375 _ ?side1 ?side2 A202.out).mono ?_); (case side1 => exact zk (Kd.V_reads' HO_5.out).2.2); (case side2 => exact (Kd.V_reads' HO_5.out).2.1); rintro e w206 ⟨v376, rfl, ho0, hb⟩; refine ⟨_, rfl, ?_⟩; refine up6 (Kd.V_elder' (zv HO_5.out) (Kd.R_base ho0) hb) (Kd.R_elder' (zw HO372.out) (Kd.R_base ho0) hb) (Kd.R_lower (Kd.R_new' ho0 (Kd.R_lt (zw HO372.out))) (below_size (zb2 HB.out GE357.out GE362.out))) (blk_below (g := gb357) (o := .cells #[.int .i64 t354, .int .i64 t355] 43 (0, 0)) (zq BK357.out) hb) (blk_below (g := gb362) (o := .cells #[.int .i64 t359, .int .i64 t360] 43 (0, 0)) (zq BK362.out) hb) (below_step (zb2 HB.out GE357.out GE362.out) hb) ?_; clear HO_5 HO372 BK357 BK362 HB; intro HO_5 HO372 HO377 BK357 BK362 HB; (try clear hb); (try clear hb2); (try clear hk); (try clear hi); (try clear ho0)))
      (try simp only [Act.put, List.setIfInBounds_toArray, List.set_cons_zero, List.set_cons_succ])
      go_cut [525] from 1000 to 1001 (fun v525 wc => ∃ (kq : Nat) (x525_202 : Bool), v525 = .bool x525_202 ∧ Aside0 (laws_FnPlies.j11 kq t276 (wrap64 (1 + t367)) t373 t374 x525_202 = some r) ∧ Aside0 (kq ≤ k9) ∧ Aside0 (Kd.V k33 33 wc w.heap.size (fun k_ => some k_ ≠ (v376 : Value).ownBlock ∧ k_ ≠ gb357 ∧ k_ ≠ gb362) (.slice Ao17 t276.length co17) t276) ∧ Aside0 (Kd.R (Kd.int .i64) 2 wc w.heap.size (fun _ => True) v376 t373) ∧ Aside0 (wc.heap[gb357]? = some (.cells #[.int .i64 t354, .int .i64 t355] 43 (0, 0))) ∧ Aside0 (wc.heap[gb362]? = some (.cells #[.int .i64 t359, .int .i64 t360] 43 (0, 0))) ∧ Aside0 (Below w.heap.size w wc))
      case first =>
       have H := HC203.out
       clear HC203
       by_cases c207 : t370 = t375
       rotate_left
       · rw [if_neg c207] at H
         have c207b0 : (t370 == t375) = false := beq_eq_false_iff_ne.mpr c207
         have c207b1 : (t370 != t375) = true := bne_iff_ne.mpr c207
         (first | rw [c207b0] | (simp only [i64_w, i32_w]; rw [c207b0]) | skip)
         have H' := Aside0.mk H
         clear H
         go_wp2
         go_meet
         case rel => exact ⟨_, (true), zx, H', ⟨by have := HJ162.out; have := HJ173.out; have := HK9.out; first | omega | exact Nat.le_refl _⟩, ⟨by (with_reducible repeat (first | apply Kd.V_alloc | apply Kd.V_drewN | apply Kd.V_drew)); exact Kd.V_mono HO_5.out (fun _ hk => ⟨hk.2, ⟨hk.1.1.1, hk.1.1.2⟩⟩)⟩, ⟨by (with_reducible repeat (first | apply Kd.R_alloc | apply Kd.R_drewN | apply Kd.R_drew)); exact Kd.R_mono HO377.out (fun _ hk => trivial)⟩, ⟨by (with_reducible repeat (first | refine blk_drewN ?_ _ | refine blk_drew ?_ | refine blk_alloc ?_ _)); exact BK357.out⟩, ⟨by (with_reducible repeat (first | refine blk_drewN ?_ _ | refine blk_drew ?_ | refine blk_alloc ?_ _)); exact BK362.out⟩, ⟨zb2 HB.out GE357.out GE362.out⟩⟩
       rw [if_pos c207] at H
       have c207b0 : (t370 == t375) = true := beq_iff_eq.mpr c207
       have c207b1 : (t370 != t375) = false := bne_eq_false_iff_eq.mpr c207
       clear c207
       (first | rw [c207b0] | (simp only [i64_w, i32_w]; rw [c207b0]) | skip)
       by_cases c208 : t370 = 0
       rotate_left
       · rw [if_neg c208] at H
         have c208b0 : (t370 == 0) = false := beq_eq_false_iff_ne.mpr c208
         have c208b1 : (t370 != 0) = true := bne_iff_ne.mpr c208
         have H' := Aside0.mk H
         clear H
         go_wp2
         go_meet
         case rel => exact ⟨_, (true), zx, H', ⟨by have := HJ162.out; have := HJ173.out; have := HK9.out; first | omega | exact Nat.le_refl _⟩, ⟨by (with_reducible repeat (first | apply Kd.V_alloc | apply Kd.V_drewN | apply Kd.V_drew)); exact Kd.V_mono HO_5.out (fun _ hk => ⟨hk.2, ⟨hk.1.1.1, hk.1.1.2⟩⟩)⟩, ⟨by (with_reducible repeat (first | apply Kd.R_alloc | apply Kd.R_drewN | apply Kd.R_drew)); exact Kd.R_mono HO377.out (fun _ hk => trivial)⟩, ⟨by (with_reducible repeat (first | refine blk_drewN ?_ _ | refine blk_drew ?_ | refine blk_alloc ?_ _)); exact BK357.out⟩, ⟨by (with_reducible repeat (first | refine blk_drewN ?_ _ | refine blk_drew ?_ | refine blk_alloc ?_ _)); exact BK362.out⟩, ⟨zb2 HB.out GE357.out GE362.out⟩⟩
       rw [if_pos c208] at H
       have c208b0 : (t370 == 0) = true := beq_iff_eq.mpr c208
       have c208b1 : (t370 != 0) = false := bne_eq_false_iff_eq.mpr c208
       clear c208
       replace H := Option.bind_eq_some_iff.mp H
       obtain ⟨t378, A2090, H⟩ := H
       replace H : (if t378 = true then (if t369 = t374 then (laws_FnPlies.j11 k9 t276 (wrap64 (1 + t367)) t373 t374 ((t373.length : Int) != (t276.length : Int))) else (laws_FnPlies.j11 k9 t276 (wrap64 (1 + t367)) t373 t374 true)) else (laws_FnPlies.j11 k9 t276 (wrap64 (1 + t367)) t373 t374 true)) = some r := H
       have A209 := Aside0.mk A2090
       clear A2090
       by_cases c210 : t378 = true
       rotate_left
       · replace c210 := Bool.eq_false_iff.mpr c210
         subst c210
         have H1 : (laws_FnPlies.j11 k9 t276 (wrap64 (1 + t367)) t373 t374 true) = some r := by rw [if_neg (show ¬ (false = true) by decide)] at H; exact H
         clear H
         have H := H1
         clear H1
         have H' := Aside0.mk H
         clear H
         obtain ⟨Ao216, co216, eo216⟩ := Kd.R_slice HO372.out
         subst eo216
         obtain ⟨Ao217, co217, eo217⟩ := Kd.R_slice HO377.out
         subst eo217
         go_wp2_with (first | (go_at_call 22; (with_reducible refine (spec_SameNumbers.calls k9 _ _ t368 _ _ t373 false _ ?side1 ?side2 ?side3 ?side4 A209.out).mono ?_); (case side1 => exact zk (Kd.R_reads' HO372.out).2.2); (case side2 => exact (Kd.R_reads' HO372.out).2.1); (case side3 => exact zk (Kd.R_reads' HO377.out).2.2); (case side4 => exact (Kd.R_reads' HO377.out).2.1); rintro e w' ⟨rfl, ⟨nd, rfl⟩⟩))
         go_meet
         case rel => exact ⟨_, (true), zx, H', ⟨by have := HJ162.out; have := HJ173.out; have := HK9.out; first | omega | exact Nat.le_refl _⟩, ⟨by (with_reducible repeat (first | apply Kd.V_alloc | apply Kd.V_drewN | apply Kd.V_drew)); exact Kd.V_mono HO_5.out (fun _ hk => ⟨hk.2, ⟨hk.1.1.1, hk.1.1.2⟩⟩)⟩, ⟨by (with_reducible repeat (first | apply Kd.R_alloc | apply Kd.R_drewN | apply Kd.R_drew)); exact Kd.R_mono HO377.out (fun _ hk => trivial)⟩, ⟨by (with_reducible repeat (first | refine blk_drewN ?_ _ | refine blk_drew ?_ | refine blk_alloc ?_ _)); exact BK357.out⟩, ⟨by (with_reducible repeat (first | refine blk_drewN ?_ _ | refine blk_drew ?_ | refine blk_alloc ?_ _)); exact BK362.out⟩, ⟨zb2 HB.out GE357.out GE362.out⟩⟩
       subst c210
       have H1 : (if t369 = t374 then (laws_FnPlies.j11 k9 t276 (wrap64 (1 + t367)) t373 t374 ((t373.length : Int) != (t276.length : Int))) else (laws_FnPlies.j11 k9 t276 (wrap64 (1 + t367)) t373 t374 true)) = some r := by rw [if_pos rfl] at H; exact H
       clear H
       have H := H1
       clear H1
       by_cases c211 : t369 = t374
       rotate_left
       · rw [if_neg c211] at H
         have c211b0 : (t369 == t374) = false := beq_eq_false_iff_ne.mpr c211
         have c211b1 : (t369 != t374) = true := bne_iff_ne.mpr c211
         have H' := Aside0.mk H
         clear H
         obtain ⟨Ao214, co214, eo214⟩ := Kd.R_slice HO372.out
         subst eo214
         obtain ⟨Ao215, co215, eo215⟩ := Kd.R_slice HO377.out
         subst eo215
         go_wp2_with (first | (go_at_call 22; (with_reducible refine (spec_SameNumbers.calls k9 _ _ t368 _ _ t373 true _ ?side1 ?side2 ?side3 ?side4 A209.out).mono ?_); (case side1 => exact zk (Kd.R_reads' HO372.out).2.2); (case side2 => exact (Kd.R_reads' HO372.out).2.1); (case side3 => exact zk (Kd.R_reads' HO377.out).2.2); (case side4 => exact (Kd.R_reads' HO377.out).2.1); rintro e w' ⟨rfl, ⟨nd, rfl⟩⟩))
         go_meet
         case rel => exact ⟨_, (true), zx, H', ⟨by have := HJ162.out; have := HJ173.out; have := HK9.out; first | omega | exact Nat.le_refl _⟩, ⟨by (with_reducible repeat (first | apply Kd.V_alloc | apply Kd.V_drewN | apply Kd.V_drew)); exact Kd.V_mono HO_5.out (fun _ hk => ⟨hk.2, ⟨hk.1.1.1, hk.1.1.2⟩⟩)⟩, ⟨by (with_reducible repeat (first | apply Kd.R_alloc | apply Kd.R_drewN | apply Kd.R_drew)); exact Kd.R_mono HO377.out (fun _ hk => trivial)⟩, ⟨by (with_reducible repeat (first | refine blk_drewN ?_ _ | refine blk_drew ?_ | refine blk_alloc ?_ _)); exact BK357.out⟩, ⟨by (with_reducible repeat (first | refine blk_drewN ?_ _ | refine blk_drew ?_ | refine blk_alloc ?_ _)); exact BK362.out⟩, ⟨zb2 HB.out GE357.out GE362.out⟩⟩
       rw [if_pos c211] at H
       have c211b0 : (t369 == t374) = true := beq_iff_eq.mpr c211
       have c211b1 : (t369 != t374) = false := bne_eq_false_iff_eq.mpr c211
       clear c211
       have H' := Aside0.mk H
       clear H
       obtain ⟨Ao212, co212, eo212⟩ := Kd.R_slice HO372.out
       subst eo212
       obtain ⟨Ao213, co213, eo213⟩ := Kd.R_slice HO377.out
       subst eo213
       go_wp2_with (first | (go_at_call 22; (with_reducible refine (spec_SameNumbers.calls k9 _ _ t368 _ _ t373 true _ ?side1 ?side2 ?side3 ?side4 A209.out).mono ?_); (case side1 => exact zk (Kd.R_reads' HO372.out).2.2); (case side2 => exact (Kd.R_reads' HO372.out).2.1); (case side3 => exact zk (Kd.R_reads' HO377.out).2.2); (case side4 => exact (Kd.R_reads' HO377.out).2.1); rintro e w' ⟨rfl, ⟨nd, rfl⟩⟩))
       go_meet
       case rel => exact ⟨_, (((t373.length : Int) != (t276.length : Int))), zx, H', ⟨by have := HJ162.out; have := HJ173.out; have := HK9.out; first | omega | exact Nat.le_refl _⟩, ⟨by (with_reducible repeat (first | apply Kd.V_alloc | apply Kd.V_drewN | apply Kd.V_drew)); exact Kd.V_mono HO_5.out (fun _ hk => ⟨hk.2, ⟨hk.1.1.1, hk.1.1.2⟩⟩)⟩, ⟨by (with_reducible repeat (first | apply Kd.R_alloc | apply Kd.R_drewN | apply Kd.R_drew)); exact Kd.R_mono HO377.out (fun _ hk => trivial)⟩, ⟨by (with_reducible repeat (first | refine blk_drewN ?_ _ | refine blk_drew ?_ | refine blk_alloc ?_ _)); exact BK357.out⟩, ⟨by (with_reducible repeat (first | refine blk_drewN ?_ _ | refine blk_drew ?_ | refine blk_alloc ?_ _)); exact BK362.out⟩, ⟨zb2 HB.out GE357.out GE362.out⟩⟩
      case rest =>
      obtain ⟨kq, x525_202, rfl, HA, HJ202, HO_5, HO_62, BK357, BK362, HB⟩ := hcut
      cases x525_202 with
      | true => exact absurd HA.out (by cases kq <;> simp [laws_FnPlies.j11])
      | false =>
       go_step
       go_step
       first | exact laws_FnPlies.p9 (by kernel_rfl) GE357 GE362 ⟨kq, HA, HJ202, HO_5, HO_62, BK357, BK362, HB⟩ | (go_step; first | exact laws_FnPlies.p9 (by kernel_rfl) GE357 GE362 ⟨kq, HA, HJ202, HO_5, HO_62, BK357, BK362, HB⟩ | (go_step; first | exact laws_FnPlies.p9 (by kernel_rfl) GE357 GE362 ⟨kq, HA, HJ202, HO_5, HO_62, BK357, BK362, HB⟩ | (go_step; exact laws_FnPlies.p9 (by kernel_rfl) GE357 GE362 ⟨kq, HA, HJ202, HO_5, HO_62, BK357, BK362, HB⟩)))
    rw [if_pos c189] at H
    have c189b0 : decide (x55_9 < (t276.length : Int)) = true := decide_eq_true c189
    clear c189
    by_cases c190 : 0 ≤ x55_9
    rotate_left
    · rw [if_neg c190] at H
      exact absurd H (by simp)
    rw [if_pos c190] at H
    have c190b0 : decide (0 ≤ x55_9) = true := decide_eq_true c190
    clear c190
    by_cases c191 : 0 ≤ t358
    rotate_left
    · rw [if_neg c191] at H
      exact absurd H (by simp)
    rw [if_pos c191] at H
    have c191b0 : decide (0 ≤ t358) = true := decide_eq_true c191
    clear c191
    by_cases c192 : t358 < (t276.length : Int)
    rotate_left
    · rw [if_neg c192] at H
      exact absurd H (by simp)
    rw [if_pos c192] at H
    have c192b0 : decide (t358 < (t276.length : Int)) = true := decide_eq_true c192
    clear c192
    by_cases c193 : (wrap64 ((wrap64 ((rd_T33 t276 x55_9).f0)) * (wrap64 ((rd_T33 t276 t358).f2)))) > (wrap64 ((wrap64 ((rd_T33 t276 t358).f0)) * (wrap64 ((rd_T33 t276 x55_9).f2))))
    · rw [if_pos c193] at H
      exact absurd H (by simp)
    rw [if_neg c193] at H
    have c193b0 : decide ((wrap64 ((wrap64 ((rd_T33 t276 t358).f0)) * (wrap64 ((rd_T33 t276 x55_9).f2)))) < (wrap64 ((wrap64 ((rd_T33 t276 x55_9).f0)) * (wrap64 ((rd_T33 t276 t358).f2))))) = false := decide_eq_false c193
    clear c193
    by_cases c194 : (wrap64 ((wrap64 ((rd_T33 t276 x55_9).f0)) * (wrap64 ((rd_T33 t276 t358).f2)))) = (wrap64 ((wrap64 ((rd_T33 t276 t358).f0)) * (wrap64 ((rd_T33 t276 x55_9).f2))))
    rotate_left
    · rw [if_neg c194] at H
      have c194b0 : ((wrap64 ((wrap64 ((rd_T33 t276 x55_9).f0)) * (wrap64 ((rd_T33 t276 t358).f2)))) == (wrap64 ((wrap64 ((rd_T33 t276 t358).f0)) * (wrap64 ((rd_T33 t276 x55_9).f2))))) = false := beq_eq_false_iff_ne.mpr c194
      have c194b1 : ((wrap64 ((wrap64 ((rd_T33 t276 x55_9).f0)) * (wrap64 ((rd_T33 t276 t358).f2)))) != (wrap64 ((wrap64 ((rd_T33 t276 t358).f0)) * (wrap64 ((rd_T33 t276 x55_9).f2))))) = true := bne_iff_ne.mpr c194
      have H' := Aside0.mk H
      clear H
      try go_wp2
      refine up4 (Kd.V_drew HO_5.out) (blk_drew BK357.out) (blk_drew BK362.out) (below_drew1 HB.out) ?_
      clear HO_5 BK357 BK362 HB
      intro HO_5 BK357 BK362 HB
      have p363 : 0 ≤ (x55_9 : Int) := zd
      have q363 : x55_9 < (t276.length : Int) := zd
      obtain ⟨ad363, e363, hx363_0, hx363_1, hx363_2⟩ := at_T33 (Kd.V_reads' HO_5.out).2.2 x55_9 p363 q363
      cases e363
      replace p363 := eq_true p363
      replace q363 := eq_true q363
      have p364 : 0 ≤ (t358 : Int) := zd
      have q364 : t358 < (t276.length : Int) := zd
      obtain ⟨ad364, e364, hx364_0, hx364_1, hx364_2⟩ := at_T33 (Kd.V_reads' HO_5.out).2.2 t358 p364 q364
      obtain rfl : ad363 = ad364 := (by injection e364)
      replace p364 := eq_true p364
      replace q364 := eq_true q364
      refine start_ (n := 14) (S := fun w' => w'.cell? (ad363.add ((x55_9).toNat * 3)) = some (.int .i16 ((rd_T33 t276 x55_9).f0)) ∧ w'.cell? ⟨(ad363.add ((x55_9).toNat * 3)).block, (ad363.add ((x55_9).toNat * 3)).off + 1, none⟩ = some (.int .i16 ((rd_T33 t276 x55_9).f1)) ∧ w'.cell? ⟨(ad363.add ((x55_9).toNat * 3)).block, (ad363.add ((x55_9).toNat * 3)).off + 2, none⟩ = some (.int .i16 ((rd_T33 t276 x55_9).f2)) ∧ w'.cell? (ad363.add ((t358).toNat * 3)) = some (.int .i16 ((rd_T33 t276 t358).f0)) ∧ w'.cell? ⟨(ad363.add ((t358).toNat * 3)).block, (ad363.add ((t358).toNat * 3)).off + 1, none⟩ = some (.int .i16 ((rd_T33 t276 t358).f1)) ∧ w'.cell? ⟨(ad363.add ((t358).toNat * 3)).block, (ad363.add ((t358).toNat * 3)).off + 2, none⟩ = some (.int .i16 ((rd_T33 t276 t358).f2))) (ds := []) #[false, false, false, false, false, false, false, false, false, false, false, false, false, false] (by kernel_rfl) rfl rfl ⟨hx363_0, hx363_1, hx363_2, hx364_0, hx364_1, hx364_2⟩ (fun hHeld => ?_); refine with_tabW laws_FnPlies.tab58 laws_FnPlies.bits58 (fun HT_ HW_ => ?_)
      generalize wr.drew = w198 at HO_5 BK357 BK362 HB hx363_0 hx363_1 hx363_2 hx364_0 hx364_1 hx364_2 hHeld ⊢
      refine pure_ (i := 0) (N := some 443) #[true, false, false, false, false, false, false, false, false, false, false, false, false, false] rfl rfl (any_of HT_.out (by kernel_rfl)) (fun _ _ _ h => h) (Or.inl ⟨by rfl, zy⟩) za ?_
      refine pure_ (i := 1) (N := some 444) #[true, true, false, false, false, false, false, false, false, false, false, false, false, false] rfl rfl (any_of HT_.out (by kernel_rfl)) (fun _ _ _ h => h) (Or.inl ⟨by rfl, zy⟩) za ?_
      refine pure_ (i := 2) (N := some 445) #[true, true, true, false, false, false, false, false, false, false, false, false, false, false] rfl rfl (any_of HT_.out (by kernel_rfl)) (fun _ _ _ h => h) (Or.inl ⟨by rfl, zy⟩) za ?_
      refine pure_ (i := 3) (N := some 446) #[true, true, true, true, false, false, false, false, false, false, false, false, false, false] rfl rfl (any_of HT_.out (by kernel_rfl)) (fun _ _ _ h => h) (Or.inl ⟨by rfl, zy⟩) za ?_
      refine pure_ (i := 6) (N := some 449) #[true, true, true, true, false, false, true, false, false, false, false, false, false, false] rfl rfl (any_of HT_.out (by kernel_rfl)) (fun _ _ _ h => h) (Or.inl ⟨by rfl, zy⟩) za ?_
      refine pure_ (i := 7) (N := some 450) #[true, true, true, true, false, false, true, true, false, false, false, false, false, false] rfl rfl (any_of HT_.out (by kernel_rfl)) (fun _ _ _ h => h) (Or.inl ⟨by rfl, zy⟩) za ?_
      refine pure_ (i := 8) (N := some 451) #[true, true, true, true, false, false, true, true, true, false, false, false, false, false] rfl rfl (any_of HT_.out (by kernel_rfl)) (fun _ _ _ h => h) (Or.inl ⟨by rfl, zy⟩) za ?_
      refine pure_ (i := 9) (N := some 452) #[true, true, true, true, false, false, true, true, true, true, false, false, false, false] rfl rfl (any_of HT_.out (by kernel_rfl)) (fun _ _ _ h => h) (Or.inl ⟨by rfl, zy⟩) za ?_
      refine take_ (i := 4) (N := some 447) #[true, true, true, true, true, false, true, true, true, true, false, false, false, false] rfl rfl (take_ofW HT_.out HW_.out (by kernel_rfl)) (fun _ _ _ h => h) (Or.inl ⟨by rfl, zt6⟩) hHeld za ?_
      refine pure_ (i := 5) (N := some 448) #[true, true, true, true, true, true, true, true, true, true, false, false, false, false] rfl rfl (any_of HT_.out (by kernel_rfl)) (fun _ _ _ h => h) (Or.inl ⟨by rfl, zy⟩) za ?_
      refine take_ (i := 10) (N := some 453) #[true, true, true, true, true, true, true, true, true, true, true, false, false, false] rfl rfl (take_ofW HT_.out HW_.out (by kernel_rfl)) (fun _ _ _ h => h) (Or.inl ⟨by rfl, zt6⟩) hHeld za ?_
      refine pure_ (i := 11) (N := some 454) #[true, true, true, true, true, true, true, true, true, true, true, true, false, false] rfl rfl (any_of HT_.out (by kernel_rfl)) (fun _ _ _ h => h) (Or.inl ⟨by rfl, zy⟩) za ?_
      refine pure_ (i := 12) (N := some 455) #[true, true, true, true, true, true, true, true, true, true, true, true, true, false] rfl rfl (any_of HT_.out (by kernel_rfl)) (fun _ _ _ h => h) (Or.inl ⟨by rfl, zy⟩) za ?_
      refine pure_ (i := 13) (N := some 56) #[true, true, true, true, true, true, true, true, true, true, true, true, true, true] rfl rfl (any_of HT_.out (by kernel_rfl)) (fun _ _ _ h => h) (Or.inl ⟨by rfl, zy⟩) za ?_
      refine done_ (done_of HT_.out (by kernel_rfl)) ?_
      try go_wp2
      refine up4 (Kd.V_drew HO_5.out) (blk_drew BK357.out) (blk_drew BK362.out) (below_drew1 HB.out) ?_
      clear HO_5 BK357 BK362 HB
      intro HO_5 BK357 BK362 HB
      have p365 : 0 ≤ (t358 : Int) := zd
      have q365 : t358 < (t276.length : Int) := zd
      obtain ⟨ad365, e365, hx365_0, hx365_1, hx365_2⟩ := at_T33 (Kd.V_reads' HO_5.out).2.2 t358 p365 q365
      obtain rfl : ad363 = ad365 := (by injection e365)
      replace p365 := eq_true p365
      replace q365 := eq_true q365
      have p366 : 0 ≤ (x55_9 : Int) := zd
      have q366 : x55_9 < (t276.length : Int) := zd
      obtain ⟨ad366, e366, hx366_0, hx366_1, hx366_2⟩ := at_T33 (Kd.V_reads' HO_5.out).2.2 x55_9 p366 q366
      obtain rfl : ad363 = ad366 := (by injection e366)
      replace p366 := eq_true p366
      replace q366 := eq_true q366
      refine start_ (n := 14) (S := fun w' => w'.cell? (ad363.add ((t358).toNat * 3)) = some (.int .i16 ((rd_T33 t276 t358).f0)) ∧ w'.cell? ⟨(ad363.add ((t358).toNat * 3)).block, (ad363.add ((t358).toNat * 3)).off + 1, none⟩ = some (.int .i16 ((rd_T33 t276 t358).f1)) ∧ w'.cell? ⟨(ad363.add ((t358).toNat * 3)).block, (ad363.add ((t358).toNat * 3)).off + 2, none⟩ = some (.int .i16 ((rd_T33 t276 t358).f2)) ∧ w'.cell? (ad363.add ((x55_9).toNat * 3)) = some (.int .i16 ((rd_T33 t276 x55_9).f0)) ∧ w'.cell? ⟨(ad363.add ((x55_9).toNat * 3)).block, (ad363.add ((x55_9).toNat * 3)).off + 1, none⟩ = some (.int .i16 ((rd_T33 t276 x55_9).f1)) ∧ w'.cell? ⟨(ad363.add ((x55_9).toNat * 3)).block, (ad363.add ((x55_9).toNat * 3)).off + 2, none⟩ = some (.int .i16 ((rd_T33 t276 x55_9).f2))) (ds := []) #[false, false, false, false, false, false, false, false, false, false, false, false, false, false] (by kernel_rfl) rfl rfl ⟨hx365_0, hx365_1, hx365_2, hx366_0, hx366_1, hx366_2⟩ (fun hHeld => ?_); refine with_tabW laws_FnPlies.tab59 laws_FnPlies.bits59 (fun HT_ HW_ => ?_)
      generalize w198.drew = w199 at HO_5 BK357 BK362 HB hx365_0 hx365_1 hx365_2 hx366_0 hx366_1 hx366_2 hHeld ⊢
      refine pure_ (i := 0) (N := some 456) #[true, false, false, false, false, false, false, false, false, false, false, false, false, false] rfl rfl (any_of HT_.out (by kernel_rfl)) (fun _ _ _ h => h) (Or.inl ⟨by rfl, zy⟩) za ?_
      refine pure_ (i := 1) (N := some 457) #[true, true, false, false, false, false, false, false, false, false, false, false, false, false] rfl rfl (any_of HT_.out (by kernel_rfl)) (fun _ _ _ h => h) (Or.inl ⟨by rfl, zy⟩) za ?_
      refine pure_ (i := 2) (N := some 458) #[true, true, true, false, false, false, false, false, false, false, false, false, false, false] rfl rfl (any_of HT_.out (by kernel_rfl)) (fun _ _ _ h => h) (Or.inl ⟨by rfl, zy⟩) za ?_
      refine pure_ (i := 3) (N := some 459) #[true, true, true, true, false, false, false, false, false, false, false, false, false, false] rfl rfl (any_of HT_.out (by kernel_rfl)) (fun _ _ _ h => h) (Or.inl ⟨by rfl, zy⟩) za ?_
      refine pure_ (i := 6) (N := some 462) #[true, true, true, true, false, false, true, false, false, false, false, false, false, false] rfl rfl (any_of HT_.out (by kernel_rfl)) (fun _ _ _ h => h) (Or.inl ⟨by rfl, zy⟩) za ?_
      refine pure_ (i := 7) (N := some 463) #[true, true, true, true, false, false, true, true, false, false, false, false, false, false] rfl rfl (any_of HT_.out (by kernel_rfl)) (fun _ _ _ h => h) (Or.inl ⟨by rfl, zy⟩) za ?_
      refine pure_ (i := 8) (N := some 464) #[true, true, true, true, false, false, true, true, true, false, false, false, false, false] rfl rfl (any_of HT_.out (by kernel_rfl)) (fun _ _ _ h => h) (Or.inl ⟨by rfl, zy⟩) za ?_
      refine pure_ (i := 9) (N := some 465) #[true, true, true, true, false, false, true, true, true, true, false, false, false, false] rfl rfl (any_of HT_.out (by kernel_rfl)) (fun _ _ _ h => h) (Or.inl ⟨by rfl, zy⟩) za ?_
      refine take_ (i := 4) (N := some 460) #[true, true, true, true, true, false, true, true, true, true, false, false, false, false] rfl rfl (take_ofW HT_.out HW_.out (by kernel_rfl)) (fun _ _ _ h => h) (Or.inl ⟨by rfl, zt6⟩) hHeld za ?_
      refine pure_ (i := 5) (N := some 461) #[true, true, true, true, true, true, true, true, true, true, false, false, false, false] rfl rfl (any_of HT_.out (by kernel_rfl)) (fun _ _ _ h => h) (Or.inl ⟨by rfl, zy⟩) za ?_
      refine take_ (i := 10) (N := some 466) #[true, true, true, true, true, true, true, true, true, true, true, false, false, false] rfl rfl (take_ofW HT_.out HW_.out (by kernel_rfl)) (fun _ _ _ h => h) (Or.inl ⟨by rfl, zt6⟩) hHeld za ?_
      refine pure_ (i := 11) (N := some 467) #[true, true, true, true, true, true, true, true, true, true, true, true, false, false] rfl rfl (any_of HT_.out (by kernel_rfl)) (fun _ _ _ h => h) (Or.inl ⟨by rfl, zy⟩) za ?_
      refine pure_ (i := 12) (N := some 468) #[true, true, true, true, true, true, true, true, true, true, true, true, true, false] rfl rfl (any_of HT_.out (by kernel_rfl)) (fun _ _ _ h => h) (Or.inl ⟨by rfl, zy⟩) za ?_
      refine pure_ (i := 13) (N := some 57) #[true, true, true, true, true, true, true, true, true, true, true, true, true, true] rfl rfl (any_of HT_.out (by kernel_rfl)) (fun _ _ _ h => h) (Or.inl ⟨by rfl, zy⟩) za ?_
      refine done_ (done_of HT_.out (by kernel_rfl)) ?_
      try go_wp2
      go_roundg k9
      case measure => have := HJ162.out; have := HJ173.out; have := HK9.out; omega
      case rel => exact ⟨(wrap64 (x55_9 + 1)), zx, H', ⟨by have := HJ162.out; have := HJ173.out; have := HK9.out; omega⟩, ⟨zv HO_5.out⟩, ⟨by (with_reducible repeat (first | refine blk_drewN ?_ _ | refine blk_drew ?_ | refine blk_alloc ?_ _)); exact BK357.out⟩, ⟨by (with_reducible repeat (first | refine blk_drewN ?_ _ | refine blk_drew ?_ | refine blk_alloc ?_ _)); exact BK362.out⟩, ⟨zb2 HB.out GE357.out GE362.out⟩⟩
    rw [if_pos c194] at H
    have c194b0 : ((wrap64 ((wrap64 ((rd_T33 t276 x55_9).f0)) * (wrap64 ((rd_T33 t276 t358).f2)))) == (wrap64 ((wrap64 ((rd_T33 t276 t358).f0)) * (wrap64 ((rd_T33 t276 x55_9).f2))))) = true := beq_iff_eq.mpr c194
    have c194b1 : ((wrap64 ((wrap64 ((rd_T33 t276 x55_9).f0)) * (wrap64 ((rd_T33 t276 t358).f2)))) != (wrap64 ((wrap64 ((rd_T33 t276 t358).f0)) * (wrap64 ((rd_T33 t276 x55_9).f2))))) = false := bne_eq_false_iff_eq.mpr c194
    clear c194
    by_cases c195 : x55_9 < t358
    · rw [if_pos c195] at H
      exact absurd H (by simp)
    rw [if_neg c195] at H
    have c195b0 : decide (x55_9 < t358) = false := decide_eq_false c195
    clear c195
    have H' := Aside0.mk H
    clear H
    try go_wp2
    refine up4 (Kd.V_drew HO_5.out) (blk_drew BK357.out) (blk_drew BK362.out) (below_drew1 HB.out) ?_
    clear HO_5 BK357 BK362 HB
    intro HO_5 BK357 BK362 HB
    have p363 : 0 ≤ (x55_9 : Int) := zd
    have q363 : x55_9 < (t276.length : Int) := zd
    obtain ⟨ad363, e363, hx363_0, hx363_1, hx363_2⟩ := at_T33 (Kd.V_reads' HO_5.out).2.2 x55_9 p363 q363
    cases e363
    replace p363 := eq_true p363
    replace q363 := eq_true q363
    have p364 : 0 ≤ (t358 : Int) := zd
    have q364 : t358 < (t276.length : Int) := zd
    obtain ⟨ad364, e364, hx364_0, hx364_1, hx364_2⟩ := at_T33 (Kd.V_reads' HO_5.out).2.2 t358 p364 q364
    obtain rfl : ad363 = ad364 := (by injection e364)
    replace p364 := eq_true p364
    replace q364 := eq_true q364
    refine start_ (n := 14) (S := fun w' => w'.cell? (ad363.add ((x55_9).toNat * 3)) = some (.int .i16 ((rd_T33 t276 x55_9).f0)) ∧ w'.cell? ⟨(ad363.add ((x55_9).toNat * 3)).block, (ad363.add ((x55_9).toNat * 3)).off + 1, none⟩ = some (.int .i16 ((rd_T33 t276 x55_9).f1)) ∧ w'.cell? ⟨(ad363.add ((x55_9).toNat * 3)).block, (ad363.add ((x55_9).toNat * 3)).off + 2, none⟩ = some (.int .i16 ((rd_T33 t276 x55_9).f2)) ∧ w'.cell? (ad363.add ((t358).toNat * 3)) = some (.int .i16 ((rd_T33 t276 t358).f0)) ∧ w'.cell? ⟨(ad363.add ((t358).toNat * 3)).block, (ad363.add ((t358).toNat * 3)).off + 1, none⟩ = some (.int .i16 ((rd_T33 t276 t358).f1)) ∧ w'.cell? ⟨(ad363.add ((t358).toNat * 3)).block, (ad363.add ((t358).toNat * 3)).off + 2, none⟩ = some (.int .i16 ((rd_T33 t276 t358).f2))) (ds := []) #[false, false, false, false, false, false, false, false, false, false, false, false, false, false] (by kernel_rfl) rfl rfl ⟨hx363_0, hx363_1, hx363_2, hx364_0, hx364_1, hx364_2⟩ (fun hHeld => ?_); refine with_tabW laws_FnPlies.tab58 laws_FnPlies.bits58 (fun HT_ HW_ => ?_)
    generalize wr.drew = w196 at HO_5 BK357 BK362 HB hx363_0 hx363_1 hx363_2 hx364_0 hx364_1 hx364_2 hHeld ⊢
    refine pure_ (i := 0) (N := some 443) #[true, false, false, false, false, false, false, false, false, false, false, false, false, false] rfl rfl (any_of HT_.out (by kernel_rfl)) (fun _ _ _ h => h) (Or.inl ⟨by rfl, zy⟩) za ?_
    refine pure_ (i := 1) (N := some 444) #[true, true, false, false, false, false, false, false, false, false, false, false, false, false] rfl rfl (any_of HT_.out (by kernel_rfl)) (fun _ _ _ h => h) (Or.inl ⟨by rfl, zy⟩) za ?_
    refine pure_ (i := 2) (N := some 445) #[true, true, true, false, false, false, false, false, false, false, false, false, false, false] rfl rfl (any_of HT_.out (by kernel_rfl)) (fun _ _ _ h => h) (Or.inl ⟨by rfl, zy⟩) za ?_
    refine pure_ (i := 3) (N := some 446) #[true, true, true, true, false, false, false, false, false, false, false, false, false, false] rfl rfl (any_of HT_.out (by kernel_rfl)) (fun _ _ _ h => h) (Or.inl ⟨by rfl, zy⟩) za ?_
    refine pure_ (i := 6) (N := some 449) #[true, true, true, true, false, false, true, false, false, false, false, false, false, false] rfl rfl (any_of HT_.out (by kernel_rfl)) (fun _ _ _ h => h) (Or.inl ⟨by rfl, zy⟩) za ?_
    refine pure_ (i := 7) (N := some 450) #[true, true, true, true, false, false, true, true, false, false, false, false, false, false] rfl rfl (any_of HT_.out (by kernel_rfl)) (fun _ _ _ h => h) (Or.inl ⟨by rfl, zy⟩) za ?_
    refine pure_ (i := 8) (N := some 451) #[true, true, true, true, false, false, true, true, true, false, false, false, false, false] rfl rfl (any_of HT_.out (by kernel_rfl)) (fun _ _ _ h => h) (Or.inl ⟨by rfl, zy⟩) za ?_
    refine pure_ (i := 9) (N := some 452) #[true, true, true, true, false, false, true, true, true, true, false, false, false, false] rfl rfl (any_of HT_.out (by kernel_rfl)) (fun _ _ _ h => h) (Or.inl ⟨by rfl, zy⟩) za ?_
    refine take_ (i := 4) (N := some 447) #[true, true, true, true, true, false, true, true, true, true, false, false, false, false] rfl rfl (take_ofW HT_.out HW_.out (by kernel_rfl)) (fun _ _ _ h => h) (Or.inl ⟨by rfl, zt6⟩) hHeld za ?_
    refine pure_ (i := 5) (N := some 448) #[true, true, true, true, true, true, true, true, true, true, false, false, false, false] rfl rfl (any_of HT_.out (by kernel_rfl)) (fun _ _ _ h => h) (Or.inl ⟨by rfl, zy⟩) za ?_
    refine take_ (i := 10) (N := some 453) #[true, true, true, true, true, true, true, true, true, true, true, false, false, false] rfl rfl (take_ofW HT_.out HW_.out (by kernel_rfl)) (fun _ _ _ h => h) (Or.inl ⟨by rfl, zt6⟩) hHeld za ?_
    refine pure_ (i := 11) (N := some 454) #[true, true, true, true, true, true, true, true, true, true, true, true, false, false] rfl rfl (any_of HT_.out (by kernel_rfl)) (fun _ _ _ h => h) (Or.inl ⟨by rfl, zy⟩) za ?_
    refine pure_ (i := 12) (N := some 455) #[true, true, true, true, true, true, true, true, true, true, true, true, true, false] rfl rfl (any_of HT_.out (by kernel_rfl)) (fun _ _ _ h => h) (Or.inl ⟨by rfl, zy⟩) za ?_
    refine pure_ (i := 13) (N := some 56) #[true, true, true, true, true, true, true, true, true, true, true, true, true, true] rfl rfl (any_of HT_.out (by kernel_rfl)) (fun _ _ _ h => h) (Or.inl ⟨by rfl, zy⟩) za ?_
    refine done_ (done_of HT_.out (by kernel_rfl)) ?_
    try go_wp2
    refine up4 (Kd.V_drew HO_5.out) (blk_drew BK357.out) (blk_drew BK362.out) (below_drew1 HB.out) ?_
    clear HO_5 BK357 BK362 HB
    intro HO_5 BK357 BK362 HB
    have p365 : 0 ≤ (t358 : Int) := zd
    have q365 : t358 < (t276.length : Int) := zd
    obtain ⟨ad365, e365, hx365_0, hx365_1, hx365_2⟩ := at_T33 (Kd.V_reads' HO_5.out).2.2 t358 p365 q365
    obtain rfl : ad363 = ad365 := (by injection e365)
    replace p365 := eq_true p365
    replace q365 := eq_true q365
    have p366 : 0 ≤ (x55_9 : Int) := zd
    have q366 : x55_9 < (t276.length : Int) := zd
    obtain ⟨ad366, e366, hx366_0, hx366_1, hx366_2⟩ := at_T33 (Kd.V_reads' HO_5.out).2.2 x55_9 p366 q366
    obtain rfl : ad363 = ad366 := (by injection e366)
    replace p366 := eq_true p366
    replace q366 := eq_true q366
    refine start_ (n := 14) (S := fun w' => w'.cell? (ad363.add ((t358).toNat * 3)) = some (.int .i16 ((rd_T33 t276 t358).f0)) ∧ w'.cell? ⟨(ad363.add ((t358).toNat * 3)).block, (ad363.add ((t358).toNat * 3)).off + 1, none⟩ = some (.int .i16 ((rd_T33 t276 t358).f1)) ∧ w'.cell? ⟨(ad363.add ((t358).toNat * 3)).block, (ad363.add ((t358).toNat * 3)).off + 2, none⟩ = some (.int .i16 ((rd_T33 t276 t358).f2)) ∧ w'.cell? (ad363.add ((x55_9).toNat * 3)) = some (.int .i16 ((rd_T33 t276 x55_9).f0)) ∧ w'.cell? ⟨(ad363.add ((x55_9).toNat * 3)).block, (ad363.add ((x55_9).toNat * 3)).off + 1, none⟩ = some (.int .i16 ((rd_T33 t276 x55_9).f1)) ∧ w'.cell? ⟨(ad363.add ((x55_9).toNat * 3)).block, (ad363.add ((x55_9).toNat * 3)).off + 2, none⟩ = some (.int .i16 ((rd_T33 t276 x55_9).f2))) (ds := []) #[false, false, false, false, false, false, false, false, false, false, false, false, false, false] (by kernel_rfl) rfl rfl ⟨hx365_0, hx365_1, hx365_2, hx366_0, hx366_1, hx366_2⟩ (fun hHeld => ?_); refine with_tabW laws_FnPlies.tab59 laws_FnPlies.bits59 (fun HT_ HW_ => ?_)
    generalize w196.drew = w197 at HO_5 BK357 BK362 HB hx365_0 hx365_1 hx365_2 hx366_0 hx366_1 hx366_2 hHeld ⊢
    refine pure_ (i := 0) (N := some 456) #[true, false, false, false, false, false, false, false, false, false, false, false, false, false] rfl rfl (any_of HT_.out (by kernel_rfl)) (fun _ _ _ h => h) (Or.inl ⟨by rfl, zy⟩) za ?_
    refine pure_ (i := 1) (N := some 457) #[true, true, false, false, false, false, false, false, false, false, false, false, false, false] rfl rfl (any_of HT_.out (by kernel_rfl)) (fun _ _ _ h => h) (Or.inl ⟨by rfl, zy⟩) za ?_
    refine pure_ (i := 2) (N := some 458) #[true, true, true, false, false, false, false, false, false, false, false, false, false, false] rfl rfl (any_of HT_.out (by kernel_rfl)) (fun _ _ _ h => h) (Or.inl ⟨by rfl, zy⟩) za ?_
    refine pure_ (i := 3) (N := some 459) #[true, true, true, true, false, false, false, false, false, false, false, false, false, false] rfl rfl (any_of HT_.out (by kernel_rfl)) (fun _ _ _ h => h) (Or.inl ⟨by rfl, zy⟩) za ?_
    refine pure_ (i := 6) (N := some 462) #[true, true, true, true, false, false, true, false, false, false, false, false, false, false] rfl rfl (any_of HT_.out (by kernel_rfl)) (fun _ _ _ h => h) (Or.inl ⟨by rfl, zy⟩) za ?_
    refine pure_ (i := 7) (N := some 463) #[true, true, true, true, false, false, true, true, false, false, false, false, false, false] rfl rfl (any_of HT_.out (by kernel_rfl)) (fun _ _ _ h => h) (Or.inl ⟨by rfl, zy⟩) za ?_
    refine pure_ (i := 8) (N := some 464) #[true, true, true, true, false, false, true, true, true, false, false, false, false, false] rfl rfl (any_of HT_.out (by kernel_rfl)) (fun _ _ _ h => h) (Or.inl ⟨by rfl, zy⟩) za ?_
    refine pure_ (i := 9) (N := some 465) #[true, true, true, true, false, false, true, true, true, true, false, false, false, false] rfl rfl (any_of HT_.out (by kernel_rfl)) (fun _ _ _ h => h) (Or.inl ⟨by rfl, zy⟩) za ?_
    refine take_ (i := 4) (N := some 460) #[true, true, true, true, true, false, true, true, true, true, false, false, false, false] rfl rfl (take_ofW HT_.out HW_.out (by kernel_rfl)) (fun _ _ _ h => h) (Or.inl ⟨by rfl, zt6⟩) hHeld za ?_
    refine pure_ (i := 5) (N := some 461) #[true, true, true, true, true, true, true, true, true, true, false, false, false, false] rfl rfl (any_of HT_.out (by kernel_rfl)) (fun _ _ _ h => h) (Or.inl ⟨by rfl, zy⟩) za ?_
    refine take_ (i := 10) (N := some 466) #[true, true, true, true, true, true, true, true, true, true, true, false, false, false] rfl rfl (take_ofW HT_.out HW_.out (by kernel_rfl)) (fun _ _ _ h => h) (Or.inl ⟨by rfl, zt6⟩) hHeld za ?_
    refine pure_ (i := 11) (N := some 467) #[true, true, true, true, true, true, true, true, true, true, true, true, false, false] rfl rfl (any_of HT_.out (by kernel_rfl)) (fun _ _ _ h => h) (Or.inl ⟨by rfl, zy⟩) za ?_
    refine pure_ (i := 12) (N := some 468) #[true, true, true, true, true, true, true, true, true, true, true, true, true, false] rfl rfl (any_of HT_.out (by kernel_rfl)) (fun _ _ _ h => h) (Or.inl ⟨by rfl, zy⟩) za ?_
    refine pure_ (i := 13) (N := some 57) #[true, true, true, true, true, true, true, true, true, true, true, true, true, true] rfl rfl (any_of HT_.out (by kernel_rfl)) (fun _ _ _ h => h) (Or.inl ⟨by rfl, zy⟩) za ?_
    refine done_ (done_of HT_.out (by kernel_rfl)) ?_
    try go_wp2
    go_roundg k9
    case measure => have := HJ162.out; have := HJ173.out; have := HK9.out; omega
    case rel => exact ⟨(wrap64 (x55_9 + 1)), zx, H', ⟨by have := HJ162.out; have := HJ173.out; have := HK9.out; omega⟩, ⟨zv HO_5.out⟩, ⟨by (with_reducible repeat (first | refine blk_drewN ?_ _ | refine blk_drew ?_ | refine blk_alloc ?_ _)); exact BK357.out⟩, ⟨by (with_reducible repeat (first | refine blk_drewN ?_ _ | refine blk_drew ?_ | refine blk_alloc ?_ _)); exact BK362.out⟩, ⟨zb2 HB.out GE357.out GE362.out⟩⟩
set_option maxHeartbeats 8000000 in
set_option maxRecDepth 100000 in
theorem laws_FnPlies.p5 {A0 A1 Ao17 Ao88 : Option Addr} {c0 c1 co17 kj80 co88 : Nat} {l0 l1 : List Int} {r : Bool} {w wc : World} {u70 u71 u72 u73 u74 u4 u17 u18 u19 u20 u21 u22 u23 u24 u25 u26 u105 u106 u107 u108 u109 u110 u111 u112 u113 u114 u115 u116 u117 u118 u119 u120 u121 u122 u123 u124 u125 u126 u127 u128 u129 u130 u131 u132 u133 u134 u135 u136 u137 u138 u139 u140 u141 u142 u143 u144 u145 u146 u147 u148 u149 u150 u151 u152 u153 u154 u155 u156 u157 u158 u159 u160 u161 u162 u163 u164 u165 u166 u167 u168 u169 u170 u171 u172 u173 u174 u175 u176 u177 u178 u179 u180 u181 u182 u183 u184 u185 u186 u187 u188 u189 u190 u191 u192 u193 u194 u195 u196 u197 u198 u199 u200 u201 u202 u203 u204 u205 u206 u207 u208 u209 u210 u211 u212 u213 u214 u215 u216 u217 u218 u219 u220 u221 u222 u223 u224 u225 u226 u227 u228 u229 u230 u231 u232 u233 u234 u235 u236 u237 u238 u239 u240 u241 u242 u243 v314 v319 u256 u257 u258 u259 u260 u261 u262 u263 u264 u265 u266 u267 u268 u269 u270 u271 u272 u273 u274 u275 u276 u277 u278 u279 u280 : Value} {t276 x27_80 : List S33} {t279 t280 t281 t282 t283 t284 t285 t286 t287 t288 t289 t312 t313 t317 t318 : Int} {t316 : List S41} {c : Code} (hcode : c = laws_FnPlies.tail 28) (HR1 : Aside0 ((Kd.int IntKind.u8).C w A1 l1.length l1)) (HC1 : Aside0 (l1.length ≤ c1)) (hcut : ∃ kq, Aside0 (j5 kq l1 t276 x27_80 t316 t317 false = some r) ∧ Aside0 (kq ≤ kj80) ∧ Aside0 (k33.V 33 wc w.heap.size (fun k_ => some k_ ≠ v319.ownBlock) (Value.slice Ao17 t276.length co17) t276) ∧ Aside0 (k33.V 33 wc w.heap.size (fun k_ => some k_ ≠ v319.ownBlock) (Value.slice Ao88 x27_80.length co88) x27_80) ∧ Aside0 (k41.R 41 wc w.heap.size (fun x => True) v319 t316) ∧ Aside0 (Below w.heap.size w wc)) :
    Code.wp Try.prog c (bodyPost Try.prog Try.f3 fun e w' => e = Ending.returned (Value.bool r) ∧ Below w.heap.size w w') { tmps := #[Value.slice A0 l0.length c0, Value.slice A1 l1.length c1, undef, undef, u4, Value.slice Ao17 t276.length co17, Value.int IntKind.i64 (wrap64 (t279 - 150)), Value.int IntKind.i64 t280, Value.int IntKind.i64 t281, Value.int IntKind.i64 t282, Value.int IntKind.i64 t283, Value.int IntKind.i64 t284, Value.int IntKind.i64 t285, Value.int IntKind.i64 t286, Value.int IntKind.i64 t287, Value.int IntKind.i64 t288, Value.int IntKind.i64 t289, u17, u18, u19, u20, u21, u22, u23, u24, u25, u26, Value.slice Ao88 x27_80.length co88, v314, Value.int IntKind.i64 t312, Value.int IntKind.i64 t313, v319, Value.int IntKind.i64 t317, Value.int IntKind.i64 t318, undef, undef, undef, undef, undef, undef, undef, undef, undef, undef, undef, undef, undef, undef, undef, undef, undef, undef, undef, undef, undef, undef, undef, undef, undef, undef, undef, undef, undef, undef, undef, undef, undef, undef, undef, undef, u70, u71, u72, u73, u74, Value.bool false, Value.slice A0 l0.length c0, Value.slice Ao17 t276.length co17, Value.slice A1 l1.length c1, Value.int IntKind.i64 t279, Value.int IntKind.i64 (wrap64 (t279 - 150)), Value.tuple #[Value.int IntKind.i64 t280, Value.int IntKind.i64 t281, Value.int IntKind.i64 t282], Value.slice Ao17 t276.length co17, Value.tuple #[Value.int IntKind.i64 t280, Value.int IntKind.i64 t281, Value.int IntKind.i64 t282], Value.int IntKind.i64 t280, Value.int IntKind.i64 t281, Value.int IntKind.i64 t282, Value.tuple #[Value.int IntKind.i64 t283, Value.int IntKind.i64 t284, Value.int IntKind.i64 t285], Value.slice Ao17 t276.length co17, Value.tuple #[Value.int IntKind.i64 t283, Value.int IntKind.i64 t284, Value.int IntKind.i64 t285], Value.int IntKind.i64 t283, Value.int IntKind.i64 t284, Value.int IntKind.i64 t285, Value.tuple #[Value.int IntKind.i64 t286, Value.int IntKind.i64 t287], Value.slice Ao17 t276.length co17, Value.int IntKind.i64 (wrap64 (t279 - 150)), Value.tuple #[Value.int IntKind.i64 t286, Value.int IntKind.i64 t287], Value.int IntKind.i64 t286, Value.int IntKind.i64 t287, Value.tuple #[Value.int IntKind.i64 t288, Value.int IntKind.i64 t289], Value.slice Ao17 t276.length co17, Value.int IntKind.i64 (wrap64 (t279 - 150)), Value.tuple #[Value.int IntKind.i64 t288, Value.int IntKind.i64 t289], Value.int IntKind.i64 t288, Value.int IntKind.i64 t289, u105, u106, u107, u108, u109, u110, u111, u112, u113, u114, u115, u116, u117, u118, u119, u120, u121, u122, u123, u124, u125, u126, u127, u128, u129, u130, u131, u132, u133, u134, u135, u136, u137, u138, u139, u140, u141, u142, u143, u144, u145, u146, u147, u148, u149, u150, u151, u152, u153, u154, u155, u156, u157, u158, u159, u160, u161, u162, u163, u164, u165, u166, u167, u168, u169, u170, u171, u172, u173, u174, u175, u176, u177, u178, u179, u180, u181, u182, u183, u184, u185, u186, u187, u188, u189, u190, u191, u192, u193, u194, u195, u196, u197, u198, u199, u200, u201, u202, u203, u204, u205, u206, u207, u208, u209, u210, u211, u212, u213, u214, u215, u216, u217, u218, u219, u220, u221, u222, u223, u224, u225, u226, u227, u228, u229, u230, u231, u232, u233, u234, u235, u236, u237, u238, u239, u240, u241, u242, u243, Value.tuple #[v314, Value.int IntKind.i64 t312, Value.int IntKind.i64 t313], Value.slice Ao88 x27_80.length co88, Value.tuple #[v314, Value.int IntKind.i64 t312, Value.int IntKind.i64 t313], v314, Value.int IntKind.i64 t312, Value.int IntKind.i64 t313, Value.tuple #[v319, Value.int IntKind.i64 t317, Value.int IntKind.i64 t318], Value.slice Ao88 x27_80.length co88, Value.tuple #[v319, Value.int IntKind.i64 t317, Value.int IntKind.i64 t318], v319, Value.int IntKind.i64 t317, Value.int IntKind.i64 t318, u256, u257, u258, u259, u260, u261, u262, u263, u264, u265, u266, u267, u268, u269, u270, u271, u272, u273, u274, u275, u276, u277, u278, u279, u280, Value.bool false, undef, undef, undef, undef, undef, undef, undef, undef, undef, undef, undef, undef, undef, undef, undef, undef, undef, undef, undef, undef, undef, undef, undef, undef, undef, undef, undef, undef, undef, undef, undef, undef, undef, undef, undef, undef, undef, undef, undef, undef, undef, undef, undef, undef, undef, undef, undef, undef, undef, undef, undef, undef, undef, undef, undef, undef, undef, undef, undef, undef, undef, undef, undef, undef, undef, undef, undef, undef, undef, undef, undef, undef, undef, undef, undef, undef, undef, undef, undef, undef, undef, undef, undef, undef, undef, undef, undef, undef, undef, undef, undef, undef, undef, undef, undef, undef, undef, undef, undef, undef, undef, undef, undef, undef, undef, undef, undef, undef, undef, undef, undef, undef, undef, undef, undef, undef, undef, undef, undef, undef, undef, undef, undef, undef, undef, undef, undef, undef, undef, undef, undef, undef, undef, undef, undef, undef, undef, undef, undef, undef, undef, undef, undef, undef, undef, undef, undef, undef, undef, undef, undef, undef, undef, undef, undef, undef, undef, undef, undef, undef, undef, undef, undef, undef, undef, undef, undef, undef, undef, undef, undef, undef, undef, undef, undef, undef, undef, undef, undef, undef, undef, undef, undef, undef, undef, undef, undef, undef, undef, undef, undef, undef, undef, undef, undef, undef, undef, undef, undef, undef, undef, undef, undef, undef, undef, undef, undef, undef, undef, undef, undef, undef, undef, undef, undef, undef, undef, undef, undef, undef, undef, undef, undef, undef, undef, undef, undef, undef, undef, undef, undef, undef, undef, undef, undef, undef, undef, undef, undef, undef, undef, undef, undef, undef, undef, undef, undef, undef, undef, undef, undef, undef, undef, undef, undef, undef, undef, undef, undef, undef, undef, undef, undef, undef, undef, undef, undef, undef, undef, undef, undef, undef, undef, undef, undef, undef, undef, undef, undef, undef, undef, undef, undef, undef, undef, undef, undef, undef, undef, undef, undef, undef, undef, undef, undef, undef, undef, undef], defers := [] } wc := by
 have hu33 := Try.underlying33
 have hu43 := Try.underlying43
 subst hcode
 conv => arg 2; whnf
 obtain ⟨kq, HA, HJ86, HO_5, HO_27, HO_31, HB⟩ := hcut
 cases kq with
 | zero => exact absurd HA.out (by simp [laws_FnPlies.j5])
 | succ kj86 =>
  have H := HA.out
  clear HA
  simp only [laws_FnPlies.j5] at H
  have H1 : (if 0 ≤ (x27_80.length : Int) then (if (x27_80.length) ≤ 281474976710656 then (laws_FnPlies.l0 kj86 l1 t276 x27_80 t316 t317 (List.replicate (x27_80.length) false) 0 0 0) else (none)) else (none)) = some r := by rw [if_neg (show ¬ (false = true) by decide)] at H; exact H
  clear H
  have H := H1
  clear H1
  by_cases c103 : 0 ≤ (x27_80.length : Int)
  rotate_left
  · rw [if_neg c103] at H
    exact absurd H (by simp)
  rw [if_pos c103] at H
  have c103b0 := eq_true c103
  have c103b1 : decide (0 ≤ (x27_80.length : Int)) = true := decide_eq_true c103
  clear c103
  by_cases c104 : (x27_80.length) ≤ 281474976710656
  rotate_left
  · rw [if_neg c104] at H
    exact absurd H (by simp)
  rw [if_pos c104] at H
  have c104b0 := eq_true c104
  have c104b1 : decide ((x27_80.length) ≤ 281474976710656) = true := decide_eq_true c104
  clear c104
  obtain ⟨y322, hy322⟩ : ∃ y_ : List Bool, y_ = (List.replicate (x27_80.length) false) := ⟨_, rfl⟩
  replace H : (laws_FnPlies.l0 kj86 l1 t276 x27_80 t316 t317 y322 0 0 0) = some r := by first | (rw [hy322]; with_reducible exact H) | (have H2_ := (Option.bind_some _ _).symm.trans H; rw [hy322]; with_reducible exact H2_) | (have H2_ := (Option.bind_some _ _).symm.trans H; with_reducible exact H2_) | with_reducible exact H | (rw [hy322]; exact H) | exact H
  have Ny322 := Aside0.mk hy322
  clear hy322
  have H' := Aside0.mk H
  clear H
  go_wp2_with (first | ((with_reducible refine gate_dst (N := 284) rfl ?_); (try (refine gate_guard (by rfl) ?_; dsimp only)); refine Kd.R_make Kd.bool _ 4 rfl (N := 284) rfl 40 _ _ rfl (x27_80.length : Int) rfl rfl Try.underlying40 (.bool false) 1 info4 rfl (by decide) (by omega) false (ok := fun _ => True) (okp := fun _ => True) rfl (fun _ hk => hk) trivial (zd) (Nat.le_trans (Nat.mul_le_mul_right _ (zd : (x27_80.length : Int).toNat ≤ 281474976710656)) (by omega)) (Below.refl _ _) (Nat.le_refl _) ?_; intro v323 w105 ho106 hb hg_ hnew_; clear hg_ hnew_; (first | rw [← Ny322.out] at ho106 | (simp only [Int.reduceToNat] at ho106; rw [← Ny322.out] at ho106) | (simp only [Int.toNat_natCast] at ho106; rw [← Ny322.out] at ho106)); refine up5 (Kd.V_elder' (zv HO_5.out) (Kd.R_base ho106) hb) (Kd.V_elder' (zv HO_27.out) (Kd.R_base ho106) hb) (Kd.R_below (zw HO_31.out) hb) (Kd.R_lower ho106 (below_size (zb HB.out))) (below_step (zb HB.out) hb) ?_; clear HO_5 HO_27 HO_31 HB; intro HO_5 HO_27 HO_31 HO324 HB; clear hb ho106))
  go_loopg [35, 36, 37] kj86 (fun kq v35 v36 v37 w' => ∃ (x34_6 : List Bool) (x35_6 : Int) (x36_6 : Int) (x37_6 : Int), v35 = .int .i64 x35_6 ∧ v36 = .int .i64 x36_6 ∧ v37 = .int .i64 x37_6 ∧ Aside0 (laws_FnPlies.l0 kq l1 t276 x27_80 t316 t317 x34_6 x35_6 x36_6 x37_6 = some r) ∧ Aside0 (kq ≤ kj86) ∧ Aside0 (Kd.V k33 33 w' w.heap.size (fun k_ => some k_ ≠ (v319 : Value).ownBlock ∧ some k_ ≠ (v323 : Value).ownBlock) (.slice Ao17 t276.length co17) t276) ∧ Aside0 (Kd.V k33 33 w' w.heap.size (fun k_ => some k_ ≠ (v319 : Value).ownBlock ∧ some k_ ≠ (v323 : Value).ownBlock) (.slice Ao88 x27_80.length co88) x27_80) ∧ Aside0 (Kd.R k41 41 w' w.heap.size (fun _ => True) v319 t316) ∧ Aside0 (Kd.R Kd.bool 4 w' w.heap.size (fun _ => True) v323 x34_6) ∧ Aside0 (Below w.heap.size w w'))
  case atStart => exact ⟨(y322), (0), (0), (0), zx, zx, zx, H', ⟨Nat.le_refl _⟩, ⟨zv HO_5.out⟩, ⟨zv HO_27.out⟩, ⟨zw HO_31.out⟩, ⟨zw HO324.out⟩, ⟨zb HB.out⟩⟩
  case round =>
  clear H'
  try clear c102
  try clear c103b0
  try clear c103b1
  try clear c104b0
  try clear c104b1
  obtain ⟨x34_6, x35_6, x36_6, x37_6, rfl, rfl, rfl, HA, HK6, HO_5, HO_27, HO_31, HO_34, HB⟩ := hrel
  cases gk with
  | zero => exact absurd HA.out (by simp [laws_FnPlies.l0])
  | succ k6 =>
   have H := HA.out
   clear HA
   simp only [laws_FnPlies.l0] at H
   by_cases c107 : x37_6 < (t316.length : Int)
   · rw [if_pos c107] at H
     have c107b0 : decide (x37_6 < (t316.length : Int)) = true := decide_eq_true c107
     clear c107
     by_cases c108 : 0 ≤ x37_6
     rotate_left
     · rw [if_neg c108] at H
       exact absurd H (by simp)
     rw [if_pos c108] at H
     have c108b0 : decide (0 ≤ x37_6) = true := decide_eq_true c108
     clear c108
     have HC109 := Aside0.mk H
     clear H
     obtain ⟨Ao110, co110, eo110⟩ := Kd.R_slice HO_31.out
     subst eo110
     have p325 : 0 ≤ (x37_6 : Int) := zd
     have q325 : x37_6 < (t316.length : Int) := zd
     obtain ⟨ad325, e325, hx325_0, hx325_1⟩ := at_T41 (Kd.R_reads' HO_31.out).2.2 x37_6 p325 q325
     cases e325
     replace p325 := eq_true p325
     replace q325 := eq_true q325
     have p326 : 0 ≤ (x37_6 : Int) := zd
     have q326 : x37_6 < (t316.length : Int) := zd
     obtain ⟨ad326, e326, hx326_0, hx326_1⟩ := at_T41 (Kd.R_reads' HO_31.out).2.2 x37_6 p326 q326
     obtain rfl : ad325 = ad326 := (by injection e326)
     replace p326 := eq_true p326
     replace q326 := eq_true q326
     go_upto_region 36 with (fail)
     go_cut [339] from 285 to 300 (fun v339 wc => ∃ (kq : Nat) (x339_108 : Bool), v339 = .bool x339_108 ∧ Aside0 (laws_FnPlies.j7 kq l1 t276 x27_80 t316 t317 x34_6 x35_6 x36_6 x37_6 ((rd_T41 t316 x37_6).f0) ((rd_T41 t316 x37_6).f1) x339_108 = some r) ∧ Aside0 (kq ≤ k6) ∧ Aside0 (Kd.V k33 33 wc w.heap.size (fun k_ => some k_ ≠ ((.slice (some ad325) t316.length co110) : Value).ownBlock ∧ some k_ ≠ (v323 : Value).ownBlock) (.slice Ao17 t276.length co17) t276) ∧ Aside0 (Kd.V k33 33 wc w.heap.size (fun k_ => some k_ ≠ ((.slice (some ad325) t316.length co110) : Value).ownBlock ∧ some k_ ≠ (v323 : Value).ownBlock) (.slice Ao88 x27_80.length co88) x27_80) ∧ Aside0 (Kd.R k41 41 wc w.heap.size (fun _ => True) (.slice (some ad325) t316.length co110) t316) ∧ Aside0 (Kd.R Kd.bool 4 wc w.heap.size (fun _ => True) v323 x34_6) ∧ Aside0 (Below w.heap.size w wc))
     case first =>
      have H := HC109.out
      clear HC109
      by_cases c111 : ((rd_T41 t316 x37_6).f0) < 0
      · rw [if_pos c111] at H
        have c111b0 : decide (((rd_T41 t316 x37_6).f0) < 0) = true := decide_eq_true c111
        clear c111
        (first | rw [c111b0] | (simp only [i64_w, i32_w]; rw [c111b0]) | skip)
        have H' := Aside0.mk H
        clear H
        go_wp2
        go_meet
        case rel => exact ⟨_, (true), zx, H', ⟨by have := HJ86.out; have := HK6.out; first | omega | exact Nat.le_refl _⟩, ⟨zv HO_5.out⟩, ⟨zv HO_27.out⟩, ⟨zw HO_31.out⟩, ⟨zw HO_34.out⟩, ⟨zb HB.out⟩⟩
      rw [if_neg c111] at H
      have c111b0 : decide (((rd_T41 t316 x37_6).f0) < 0) = false := decide_eq_false c111
      clear c111
      (first | rw [c111b0] | (simp only [i64_w, i32_w]; rw [c111b0]) | skip)
      by_cases c112 : ((rd_T41 t316 x37_6).f1) ≤ ((rd_T41 t316 x37_6).f0)
      · rw [if_pos c112] at H
        have c112b0 : decide (((rd_T41 t316 x37_6).f1) ≤ ((rd_T41 t316 x37_6).f0)) = true := decide_eq_true c112
        clear c112
        have H' := Aside0.mk H
        clear H
        go_wp2
        go_meet
        case rel => exact ⟨_, (true), zx, H', ⟨by have := HJ86.out; have := HK6.out; first | omega | exact Nat.le_refl _⟩, ⟨zv HO_5.out⟩, ⟨zv HO_27.out⟩, ⟨zw HO_31.out⟩, ⟨zw HO_34.out⟩, ⟨zb HB.out⟩⟩
      rw [if_neg c112] at H
      have c112b0 : decide (((rd_T41 t316 x37_6).f1) ≤ ((rd_T41 t316 x37_6).f0)) = false := decide_eq_false c112
      clear c112
      by_cases c113 : ((rd_T41 t316 x37_6).f1) ≥ (x27_80.length : Int)
      · rw [if_pos c113] at H
        have c113b0 : decide ((x27_80.length : Int) ≤ ((rd_T41 t316 x37_6).f1)) = true := decide_eq_true c113
        clear c113
        have H' := Aside0.mk H
        clear H
        go_wp2
        go_meet
        case rel => exact ⟨_, (true), zx, H', ⟨by have := HJ86.out; have := HK6.out; first | omega | exact Nat.le_refl _⟩, ⟨zv HO_5.out⟩, ⟨zv HO_27.out⟩, ⟨zw HO_31.out⟩, ⟨zw HO_34.out⟩, ⟨zb HB.out⟩⟩
      rw [if_neg c113] at H
      have c113b0 : decide ((x27_80.length : Int) ≤ ((rd_T41 t316 x37_6).f1)) = false := decide_eq_false c113
      clear c113
      by_cases c114 : 0 ≤ ((rd_T41 t316 x37_6).f0)
      rotate_left
      · rw [if_neg c114] at H
        exact absurd H (by simp)
      rw [if_pos c114] at H
      have c114b0 : decide (0 ≤ ((rd_T41 t316 x37_6).f0)) = true := decide_eq_true c114
      clear c114
      by_cases c115 : ((rd_T41 t316 x37_6).f0) < (x34_6.length : Int)
      rotate_left
      · rw [if_neg c115] at H
        exact absurd H (by simp)
      rw [if_pos c115] at H
      have c115b0 : decide (((rd_T41 t316 x37_6).f0) < (x34_6.length : Int)) = true := decide_eq_true c115
      clear c115
      obtain ⟨bq116, hbq116⟩ : ∃ b_ : Bool, b_ = (rdOf false x34_6 ((rd_T41 t316 x37_6).f0)) := ⟨_, rfl⟩
      replace H : (if bq116 = true then (laws_FnPlies.j7 k6 l1 t276 x27_80 t316 t317 x34_6 x35_6 x36_6 x37_6 ((rd_T41 t316 x37_6).f0) ((rd_T41 t316 x37_6).f1) true) else (if 0 ≤ ((rd_T41 t316 x37_6).f1) then (if ((rd_T41 t316 x37_6).f1) < (x34_6.length : Int) then (if rdOf false x34_6 ((rd_T41 t316 x37_6).f1) = true then (laws_FnPlies.j7 k6 l1 t276 x27_80 t316 t317 x34_6 x35_6 x36_6 x37_6 ((rd_T41 t316 x37_6).f0) ((rd_T41 t316 x37_6).f1) true) else (if x37_6 > 0 then (if 0 ≤ (wrap64 (x37_6 - 1)) then (if (wrap64 (x37_6 - 1)) < (t316.length : Int) then (laws_FnPlies.j7 k6 l1 t276 x27_80 t316 t317 x34_6 x35_6 x36_6 x37_6 ((rd_T41 t316 x37_6).f0) ((rd_T41 t316 x37_6).f1) (decide (((rd_T41 t316 x37_6).f0) ≤ ((rd_T41 t316 (wrap64 (x37_6 - 1))).f0)))) else (none)) else (none)) else (laws_FnPlies.j7 k6 l1 t276 x27_80 t316 t317 x34_6 x35_6 x36_6 x37_6 ((rd_T41 t316 x37_6).f0) ((rd_T41 t316 x37_6).f1) false))) else (none)) else (none))) = some r := by rw [← hbq116] at H; exact H
      have Nbq116 := Aside0.mk hbq116
      clear hbq116
      by_cases c117 : bq116 = true
      · subst c117
        have H1 : (laws_FnPlies.j7 k6 l1 t276 x27_80 t316 t317 x34_6 x35_6 x36_6 x37_6 ((rd_T41 t316 x37_6).f0) ((rd_T41 t316 x37_6).f1) true) = some r := by rw [if_pos rfl] at H; exact H
        clear H
        have H := H1
        clear H1
        have H' := Aside0.mk H
        clear H
        obtain ⟨Ao118, co118, eo118⟩ := Kd.R_slice HO_34.out
        subst eo118
        have p327 : 0 ≤ (((rd_T41 t316 x37_6).f0) : Int) := zd
        have q327 : ((rd_T41 t316 x37_6).f0) < (x34_6.length : Int) := zd
        obtain ⟨ad327, e327, hx327_0⟩ := Kd.at_bool (Kd.R_reads' HO_34.out).2.2 ((rd_T41 t316 x37_6).f0) p327 q327
        (try rw [← Nbq116.out] at hx327_0)
        cases e327
        replace p327 := eq_true p327
        replace q327 := eq_true q327
        go_wp2
        go_meet
        case rel => exact ⟨_, (true), zx, H', ⟨by have := HJ86.out; have := HK6.out; first | omega | exact Nat.le_refl _⟩, ⟨zv HO_5.out⟩, ⟨zv HO_27.out⟩, ⟨zw HO_31.out⟩, ⟨zw HO_34.out⟩, ⟨zb HB.out⟩⟩
      replace c117 := Bool.eq_false_iff.mpr c117
      subst c117
      have H1 : (if 0 ≤ ((rd_T41 t316 x37_6).f1) then (if ((rd_T41 t316 x37_6).f1) < (x34_6.length : Int) then (if rdOf false x34_6 ((rd_T41 t316 x37_6).f1) = true then (laws_FnPlies.j7 k6 l1 t276 x27_80 t316 t317 x34_6 x35_6 x36_6 x37_6 ((rd_T41 t316 x37_6).f0) ((rd_T41 t316 x37_6).f1) true) else (if x37_6 > 0 then (if 0 ≤ (wrap64 (x37_6 - 1)) then (if (wrap64 (x37_6 - 1)) < (t316.length : Int) then (laws_FnPlies.j7 k6 l1 t276 x27_80 t316 t317 x34_6 x35_6 x36_6 x37_6 ((rd_T41 t316 x37_6).f0) ((rd_T41 t316 x37_6).f1) (decide (((rd_T41 t316 x37_6).f0) ≤ ((rd_T41 t316 (wrap64 (x37_6 - 1))).f0)))) else (none)) else (none)) else (laws_FnPlies.j7 k6 l1 t276 x27_80 t316 t317 x34_6 x35_6 x36_6 x37_6 ((rd_T41 t316 x37_6).f0) ((rd_T41 t316 x37_6).f1) false))) else (none)) else (none)) = some r := by rw [if_neg (show ¬ (false = true) by decide)] at H; exact H
      clear H
      have H := H1
      clear H1
      by_cases c119 : 0 ≤ ((rd_T41 t316 x37_6).f1)
      rotate_left
      · rw [if_neg c119] at H
        exact absurd H (by simp)
      rw [if_pos c119] at H
      have c119b0 : decide (0 ≤ ((rd_T41 t316 x37_6).f1)) = true := decide_eq_true c119
      clear c119
      by_cases c120 : ((rd_T41 t316 x37_6).f1) < (x34_6.length : Int)
      rotate_left
      · rw [if_neg c120] at H
        exact absurd H (by simp)
      rw [if_pos c120] at H
      have c120b0 : decide (((rd_T41 t316 x37_6).f1) < (x34_6.length : Int)) = true := decide_eq_true c120
      clear c120
      obtain ⟨bq121, hbq121⟩ : ∃ b_ : Bool, b_ = (rdOf false x34_6 ((rd_T41 t316 x37_6).f1)) := ⟨_, rfl⟩
      replace H : (if bq121 = true then (laws_FnPlies.j7 k6 l1 t276 x27_80 t316 t317 x34_6 x35_6 x36_6 x37_6 ((rd_T41 t316 x37_6).f0) ((rd_T41 t316 x37_6).f1) true) else (if x37_6 > 0 then (if 0 ≤ (wrap64 (x37_6 - 1)) then (if (wrap64 (x37_6 - 1)) < (t316.length : Int) then (laws_FnPlies.j7 k6 l1 t276 x27_80 t316 t317 x34_6 x35_6 x36_6 x37_6 ((rd_T41 t316 x37_6).f0) ((rd_T41 t316 x37_6).f1) (decide (((rd_T41 t316 x37_6).f0) ≤ ((rd_T41 t316 (wrap64 (x37_6 - 1))).f0)))) else (none)) else (none)) else (laws_FnPlies.j7 k6 l1 t276 x27_80 t316 t317 x34_6 x35_6 x36_6 x37_6 ((rd_T41 t316 x37_6).f0) ((rd_T41 t316 x37_6).f1) false))) = some r := by rw [← hbq121] at H; exact H
      have Nbq121 := Aside0.mk hbq121
      clear hbq121
      by_cases c122 : bq121 = true
      · subst c122
        have H1 : (laws_FnPlies.j7 k6 l1 t276 x27_80 t316 t317 x34_6 x35_6 x36_6 x37_6 ((rd_T41 t316 x37_6).f0) ((rd_T41 t316 x37_6).f1) true) = some r := by rw [if_pos rfl] at H; exact H
        clear H
        have H := H1
        clear H1
        have H' := Aside0.mk H
        clear H
        obtain ⟨Ao123, co123, eo123⟩ := Kd.R_slice HO_34.out
        subst eo123
        have p327 : 0 ≤ (((rd_T41 t316 x37_6).f0) : Int) := zd
        have q327 : ((rd_T41 t316 x37_6).f0) < (x34_6.length : Int) := zd
        obtain ⟨ad327, e327, hx327_0⟩ := Kd.at_bool (Kd.R_reads' HO_34.out).2.2 ((rd_T41 t316 x37_6).f0) p327 q327
        (try rw [← Nbq116.out] at hx327_0)
        (try rw [← Nbq121.out] at hx327_0)
        cases e327
        replace p327 := eq_true p327
        replace q327 := eq_true q327
        have p328 : 0 ≤ (((rd_T41 t316 x37_6).f1) : Int) := zd
        have q328 : ((rd_T41 t316 x37_6).f1) < (x34_6.length : Int) := zd
        obtain ⟨ad328, e328, hx328_0⟩ := Kd.at_bool (Kd.R_reads' HO_34.out).2.2 ((rd_T41 t316 x37_6).f1) p328 q328
        (try rw [← Nbq116.out] at hx328_0)
        (try rw [← Nbq121.out] at hx328_0)
        obtain rfl : ad327 = ad328 := (by injection e328)
        replace p328 := eq_true p328
        replace q328 := eq_true q328
        go_wp2
        go_meet
        case rel => exact ⟨_, (true), zx, H', ⟨by have := HJ86.out; have := HK6.out; first | omega | exact Nat.le_refl _⟩, ⟨zv HO_5.out⟩, ⟨zv HO_27.out⟩, ⟨zw HO_31.out⟩, ⟨zw HO_34.out⟩, ⟨zb HB.out⟩⟩
      replace c122 := Bool.eq_false_iff.mpr c122
      subst c122
      have H1 : (if x37_6 > 0 then (if 0 ≤ (wrap64 (x37_6 - 1)) then (if (wrap64 (x37_6 - 1)) < (t316.length : Int) then (laws_FnPlies.j7 k6 l1 t276 x27_80 t316 t317 x34_6 x35_6 x36_6 x37_6 ((rd_T41 t316 x37_6).f0) ((rd_T41 t316 x37_6).f1) (decide (((rd_T41 t316 x37_6).f0) ≤ ((rd_T41 t316 (wrap64 (x37_6 - 1))).f0)))) else (none)) else (none)) else (laws_FnPlies.j7 k6 l1 t276 x27_80 t316 t317 x34_6 x35_6 x36_6 x37_6 ((rd_T41 t316 x37_6).f0) ((rd_T41 t316 x37_6).f1) false)) = some r := by rw [if_neg (show ¬ (false = true) by decide)] at H; exact H
      clear H
      have H := H1
      clear H1
      by_cases c124 : x37_6 > 0
      rotate_left
      · rw [if_neg c124] at H
        have c124b0 : decide (0 < x37_6) = false := decide_eq_false c124
        clear c124
        have H' := Aside0.mk H
        clear H
        obtain ⟨Ao129, co129, eo129⟩ := Kd.R_slice HO_34.out
        subst eo129
        have p327 : 0 ≤ (((rd_T41 t316 x37_6).f0) : Int) := zd
        have q327 : ((rd_T41 t316 x37_6).f0) < (x34_6.length : Int) := zd
        obtain ⟨ad327, e327, hx327_0⟩ := Kd.at_bool (Kd.R_reads' HO_34.out).2.2 ((rd_T41 t316 x37_6).f0) p327 q327
        (try rw [← Nbq116.out] at hx327_0)
        (try rw [← Nbq121.out] at hx327_0)
        cases e327
        replace p327 := eq_true p327
        replace q327 := eq_true q327
        have p328 : 0 ≤ (((rd_T41 t316 x37_6).f1) : Int) := zd
        have q328 : ((rd_T41 t316 x37_6).f1) < (x34_6.length : Int) := zd
        obtain ⟨ad328, e328, hx328_0⟩ := Kd.at_bool (Kd.R_reads' HO_34.out).2.2 ((rd_T41 t316 x37_6).f1) p328 q328
        (try rw [← Nbq116.out] at hx328_0)
        (try rw [← Nbq121.out] at hx328_0)
        obtain rfl : ad327 = ad328 := (by injection e328)
        replace p328 := eq_true p328
        replace q328 := eq_true q328
        go_wp2
        go_meet
        case rel => exact ⟨_, (false), zx, H', ⟨by have := HJ86.out; have := HK6.out; first | omega | exact Nat.le_refl _⟩, ⟨zv HO_5.out⟩, ⟨zv HO_27.out⟩, ⟨zw HO_31.out⟩, ⟨zw HO_34.out⟩, ⟨zb HB.out⟩⟩
      rw [if_pos c124] at H
      have c124b0 : decide (0 < x37_6) = true := decide_eq_true c124
      clear c124
      obtain ⟨ji125, hji125⟩ : ∃ j_ : Int, (wrap64 (x37_6 - 1)) = j_ := ⟨_, rfl⟩
      replace H : (if 0 ≤ (ji125) then (if (ji125) < (t316.length : Int) then (laws_FnPlies.j7 k6 l1 t276 x27_80 t316 t317 x34_6 x35_6 x36_6 x37_6 ((rd_T41 t316 x37_6).f0) ((rd_T41 t316 x37_6).f1) (decide (((rd_T41 t316 x37_6).f0) ≤ ((rd_T41 t316 (ji125)).f0)))) else (none)) else (none)) = some r := by first | (rw [hji125] at H; exact H) | (simp only [hji125] at H ⊢; exact H)
      have hji125w : (IntKind.i64.wrap (x37_6 - 1)) = ji125 := (i64_w _).trans hji125
      by_cases c126 : 0 ≤ (ji125)
      rotate_left
      · rw [if_neg c126] at H
        exact absurd H (by simp)
      rw [if_pos c126] at H
      have c126b0 : decide (0 ≤ (ji125)) = true := decide_eq_true c126
      clear c126
      by_cases c127 : (ji125) < (t316.length : Int)
      rotate_left
      · rw [if_neg c127] at H
        exact absurd H (by simp)
      rw [if_pos c127] at H
      have c127b0 : decide ((ji125) < (t316.length : Int)) = true := decide_eq_true c127
      clear c127
      have H' := Aside0.mk H
      clear H
      obtain ⟨Ao128, co128, eo128⟩ := Kd.R_slice HO_34.out
      subst eo128
      have p327 : 0 ≤ (((rd_T41 t316 x37_6).f0) : Int) := zd
      have q327 : ((rd_T41 t316 x37_6).f0) < (x34_6.length : Int) := zd
      obtain ⟨ad327, e327, hx327_0⟩ := Kd.at_bool (Kd.R_reads' HO_34.out).2.2 ((rd_T41 t316 x37_6).f0) p327 q327
      (try rw [← Nbq116.out] at hx327_0)
      (try rw [← Nbq121.out] at hx327_0)
      cases e327
      replace p327 := eq_true p327
      replace q327 := eq_true q327
      have p328 : 0 ≤ (((rd_T41 t316 x37_6).f1) : Int) := zd
      have q328 : ((rd_T41 t316 x37_6).f1) < (x34_6.length : Int) := zd
      obtain ⟨ad328, e328, hx328_0⟩ := Kd.at_bool (Kd.R_reads' HO_34.out).2.2 ((rd_T41 t316 x37_6).f1) p328 q328
      (try rw [← Nbq116.out] at hx328_0)
      (try rw [← Nbq121.out] at hx328_0)
      obtain rfl : ad327 = ad328 := (by injection e328)
      replace p328 := eq_true p328
      replace q328 := eq_true q328
      have p329 : 0 ≤ ((ji125) : Int) := zd
      have q329 : (ji125) < (t316.length : Int) := zd
      obtain ⟨ad329, e329, hx329_0, hx329_1⟩ := at_T41 (Kd.R_reads' HO_31.out).2.2 (ji125) p329 q329
      obtain rfl : ad325 = ad329 := (by injection e329)
      replace p329 := eq_true p329
      replace q329 := eq_true q329
      go_wp2
      go_meet
      case rel => exact ⟨_, (decide (((rd_T41 t316 x37_6).f0) ≤ ((rd_T41 t316 (ji125)).f0))), (by first | rfl | (simp; done) | (simp only [← hji125] <;> (first | rfl | simp)) | (simp [*]; done)), H', ⟨by have := HJ86.out; have := HK6.out; first | omega | exact Nat.le_refl _⟩, ⟨zv HO_5.out⟩, ⟨zv HO_27.out⟩, ⟨zw HO_31.out⟩, ⟨zw HO_34.out⟩, ⟨zb HB.out⟩⟩
     case rest =>
     clear HC109
     try clear c107b0
     try clear c108b0
     try clear hx325_0
     try clear hx325_1
     try clear hx326_0
     try clear hx326_1
     try clear p325
     try clear p326
     try clear q325
     try clear q326
     obtain ⟨kq, x339_108, rfl, HA, HJ108, HO_5, HO_27, HO_31, HO_34, HB⟩ := hcut
     cases kq with
     | zero => exact absurd HA.out (by simp [laws_FnPlies.j7])
     | succ kj108 =>
      have H := HA.out
      clear HA
      simp only [laws_FnPlies.j7] at H
      by_cases c130 : x339_108 = true
      · subst c130
        have H1 : (none) = some r := by rw [if_pos rfl] at H; exact H
        clear H
        have H := H1
        clear H1
        exact absurd H (by simp)
      replace c130 := Bool.eq_false_iff.mpr c130
      subst c130
      have H1 : (if 0 ≤ ((rd_T41 t316 x37_6).f0) then (if ((rd_T41 t316 x37_6).f0) < (x34_6.length : Int) then (if 0 ≤ ((rd_T41 t316 x37_6).f1) then (if ((rd_T41 t316 x37_6).f1) < (x34_6.length : Int) then (if ((rd_T41 t316 x37_6).f0) < (x27_80.length : Int) then (if ((rd_T41 t316 x37_6).f1) < (x27_80.length : Int) then ((impl_BalanceTurns.f kj108 (([(⟨(rd_T33 x27_80 ((rd_T41 t316 x37_6).f0)).f0, (rd_T33 x27_80 ((rd_T41 t316 x37_6).f0)).f1, (rd_T33 x27_80 ((rd_T41 t316 x37_6).f0)).f2⟩ : S33), (⟨(rd_T33 x27_80 ((rd_T41 t316 x37_6).f1)).f0, (rd_T33 x27_80 ((rd_T41 t316 x37_6).f1)).f1, (rd_T33 x27_80 ((rd_T41 t316 x37_6).f1)).f2⟩ : S33)] : List (S33)))).bind fun bt337 => (if 0 ≤ (wrap64 (2 * x37_6)) then (if (wrap64 (2 * x37_6)) < (x27_80.length : Int) then (if 0 ≤ (wrap64 ((wrap64 (2 * x37_6)) + 1)) then (if (wrap64 ((wrap64 (2 * x37_6)) + 1)) < (x27_80.length : Int) then ((impl_BalanceTurns.f kj108 (([(⟨(rd_T33 x27_80 (wrap64 (2 * x37_6))).f0, (rd_T33 x27_80 (wrap64 (2 * x37_6))).f1, (rd_T33 x27_80 (wrap64 (2 * x37_6))).f2⟩ : S33), (⟨(rd_T33 x27_80 (wrap64 ((wrap64 (2 * x37_6)) + 1))).f0, (rd_T33 x27_80 (wrap64 ((wrap64 (2 * x37_6)) + 1))).f1, (rd_T33 x27_80 (wrap64 ((wrap64 (2 * x37_6)) + 1))).f2⟩ : S33)] : List (S33)))).bind fun bt345 => (if bt337.2.2 = 0 then (if bt345.2.2 = 0 then (laws_FnPlies.l0 kj108 l1 t276 x27_80 t316 t317 ((x34_6.set (((rd_T41 t316 x37_6).f0) : Int).toNat true).set (((rd_T41 t316 x37_6).f1) : Int).toNat true) (wrap64 (x35_6 + bt337.2.1)) (wrap64 (x36_6 + bt345.2.1)) (wrap64 (x37_6 + 1))) else (none)) else (none))) else (none)) else (none)) else (none)) else (none))) else (none)) else (none)) else (none)) else (none)) else (none)) else (none)) = some r := by rw [if_neg (show ¬ (false = true) by decide)] at H; exact H
      clear H
      have H := H1
      clear H1
      by_cases c131 : 0 ≤ ((rd_T41 t316 x37_6).f0)
      rotate_left
      · rw [if_neg c131] at H
        exact absurd H (by simp)
      rw [if_pos c131] at H
      have c131b0 : decide (0 ≤ ((rd_T41 t316 x37_6).f0)) = true := decide_eq_true c131
      clear c131
      by_cases c132 : ((rd_T41 t316 x37_6).f0) < (x34_6.length : Int)
      rotate_left
      · rw [if_neg c132] at H
        exact absurd H (by simp)
      rw [if_pos c132] at H
      have c132b0 : decide (((rd_T41 t316 x37_6).f0) < (x34_6.length : Int)) = true := decide_eq_true c132
      clear c132
      obtain ⟨y330, hy330⟩ : ∃ y_ : List Bool, y_ = (x34_6.set (((rd_T41 t316 x37_6).f0) : Int).toNat true) := ⟨_, rfl⟩
      replace H : (if 0 ≤ ((rd_T41 t316 x37_6).f1) then (if ((rd_T41 t316 x37_6).f1) < (x34_6.length : Int) then (if ((rd_T41 t316 x37_6).f0) < (x27_80.length : Int) then (if ((rd_T41 t316 x37_6).f1) < (x27_80.length : Int) then ((impl_BalanceTurns.f kj108 (([(⟨(rd_T33 x27_80 ((rd_T41 t316 x37_6).f0)).f0, (rd_T33 x27_80 ((rd_T41 t316 x37_6).f0)).f1, (rd_T33 x27_80 ((rd_T41 t316 x37_6).f0)).f2⟩ : S33), (⟨(rd_T33 x27_80 ((rd_T41 t316 x37_6).f1)).f0, (rd_T33 x27_80 ((rd_T41 t316 x37_6).f1)).f1, (rd_T33 x27_80 ((rd_T41 t316 x37_6).f1)).f2⟩ : S33)] : List (S33)))).bind fun bt337 => (if 0 ≤ (wrap64 (2 * x37_6)) then (if (wrap64 (2 * x37_6)) < (x27_80.length : Int) then (if 0 ≤ (wrap64 ((wrap64 (2 * x37_6)) + 1)) then (if (wrap64 ((wrap64 (2 * x37_6)) + 1)) < (x27_80.length : Int) then ((impl_BalanceTurns.f kj108 (([(⟨(rd_T33 x27_80 (wrap64 (2 * x37_6))).f0, (rd_T33 x27_80 (wrap64 (2 * x37_6))).f1, (rd_T33 x27_80 (wrap64 (2 * x37_6))).f2⟩ : S33), (⟨(rd_T33 x27_80 (wrap64 ((wrap64 (2 * x37_6)) + 1))).f0, (rd_T33 x27_80 (wrap64 ((wrap64 (2 * x37_6)) + 1))).f1, (rd_T33 x27_80 (wrap64 ((wrap64 (2 * x37_6)) + 1))).f2⟩ : S33)] : List (S33)))).bind fun bt345 => (if bt337.2.2 = 0 then (if bt345.2.2 = 0 then (laws_FnPlies.l0 kj108 l1 t276 x27_80 t316 t317 (y330.set (((rd_T41 t316 x37_6).f1) : Int).toNat true) (wrap64 (x35_6 + bt337.2.1)) (wrap64 (x36_6 + bt345.2.1)) (wrap64 (x37_6 + 1))) else (none)) else (none))) else (none)) else (none)) else (none)) else (none))) else (none)) else (none)) else (none)) else (none)) = some r := by first | (rw [hy330]; with_reducible exact H) | (have H2_ := (Option.bind_some _ _).symm.trans H; rw [hy330]; with_reducible exact H2_) | (have H2_ := (Option.bind_some _ _).symm.trans H; with_reducible exact H2_) | with_reducible exact H | (rw [hy330]; exact H) | exact H
      have Ny330 := Aside0.mk hy330
      clear hy330
      by_cases c134 : 0 ≤ ((rd_T41 t316 x37_6).f1)
      rotate_left
      · rw [if_neg c134] at H
        exact absurd H (by simp)
      rw [if_pos c134] at H
      have c134b0 : decide (0 ≤ ((rd_T41 t316 x37_6).f1)) = true := decide_eq_true c134
      clear c134
      by_cases c135 : ((rd_T41 t316 x37_6).f1) < (x34_6.length : Int)
      rotate_left
      · rw [if_neg c135] at H
        exact absurd H (by simp)
      rw [if_pos c135] at H
      have c135b0 : decide (((rd_T41 t316 x37_6).f1) < (x34_6.length : Int)) = true := decide_eq_true c135
      clear c135
      obtain ⟨y331, hy331⟩ : ∃ y_ : List Bool, y_ = (y330.set (((rd_T41 t316 x37_6).f1) : Int).toNat true) := ⟨_, rfl⟩
      replace H : (if ((rd_T41 t316 x37_6).f0) < (x27_80.length : Int) then (if ((rd_T41 t316 x37_6).f1) < (x27_80.length : Int) then ((impl_BalanceTurns.f kj108 (([(⟨(rd_T33 x27_80 ((rd_T41 t316 x37_6).f0)).f0, (rd_T33 x27_80 ((rd_T41 t316 x37_6).f0)).f1, (rd_T33 x27_80 ((rd_T41 t316 x37_6).f0)).f2⟩ : S33), (⟨(rd_T33 x27_80 ((rd_T41 t316 x37_6).f1)).f0, (rd_T33 x27_80 ((rd_T41 t316 x37_6).f1)).f1, (rd_T33 x27_80 ((rd_T41 t316 x37_6).f1)).f2⟩ : S33)] : List (S33)))).bind fun bt337 => (if 0 ≤ (wrap64 (2 * x37_6)) then (if (wrap64 (2 * x37_6)) < (x27_80.length : Int) then (if 0 ≤ (wrap64 ((wrap64 (2 * x37_6)) + 1)) then (if (wrap64 ((wrap64 (2 * x37_6)) + 1)) < (x27_80.length : Int) then ((impl_BalanceTurns.f kj108 (([(⟨(rd_T33 x27_80 (wrap64 (2 * x37_6))).f0, (rd_T33 x27_80 (wrap64 (2 * x37_6))).f1, (rd_T33 x27_80 (wrap64 (2 * x37_6))).f2⟩ : S33), (⟨(rd_T33 x27_80 (wrap64 ((wrap64 (2 * x37_6)) + 1))).f0, (rd_T33 x27_80 (wrap64 ((wrap64 (2 * x37_6)) + 1))).f1, (rd_T33 x27_80 (wrap64 ((wrap64 (2 * x37_6)) + 1))).f2⟩ : S33)] : List (S33)))).bind fun bt345 => (if bt337.2.2 = 0 then (if bt345.2.2 = 0 then (laws_FnPlies.l0 kj108 l1 t276 x27_80 t316 t317 y331 (wrap64 (x35_6 + bt337.2.1)) (wrap64 (x36_6 + bt345.2.1)) (wrap64 (x37_6 + 1))) else (none)) else (none))) else (none)) else (none)) else (none)) else (none))) else (none)) else (none)) = some r := by first | (rw [hy331]; with_reducible exact H) | (have H2_ := (Option.bind_some _ _).symm.trans H; rw [hy331]; with_reducible exact H2_) | (have H2_ := (Option.bind_some _ _).symm.trans H; with_reducible exact H2_) | with_reducible exact H | (rw [hy331]; exact H) | exact H
      have Ny331 := Aside0.mk hy331
      clear hy331
      by_cases c137 : ((rd_T41 t316 x37_6).f0) < (x27_80.length : Int)
      rotate_left
      · rw [if_neg c137] at H
        exact absurd H (by simp)
      rw [if_pos c137] at H
      have c137b0 : decide (((rd_T41 t316 x37_6).f0) < (x27_80.length : Int)) = true := decide_eq_true c137
      clear c137
      by_cases c138 : ((rd_T41 t316 x37_6).f1) < (x27_80.length : Int)
      rotate_left
      · rw [if_neg c138] at H
        exact absurd H (by simp)
      rw [if_pos c138] at H
      have c138b0 : decide (((rd_T41 t316 x37_6).f1) < (x27_80.length : Int)) = true := decide_eq_true c138
      clear c138
      obtain ⟨y334, hy334⟩ : ∃ y_ : List (S33), y_ = (([(⟨(rd_T33 x27_80 ((rd_T41 t316 x37_6).f0)).f0, (rd_T33 x27_80 ((rd_T41 t316 x37_6).f0)).f1, (rd_T33 x27_80 ((rd_T41 t316 x37_6).f0)).f2⟩ : S33), (⟨(rd_T33 x27_80 ((rd_T41 t316 x37_6).f1)).f0, (rd_T33 x27_80 ((rd_T41 t316 x37_6).f1)).f1, (rd_T33 x27_80 ((rd_T41 t316 x37_6).f1)).f2⟩ : S33)] : List (S33))) := ⟨_, rfl⟩
      replace H : ((impl_BalanceTurns.f kj108 y334).bind fun bt337 => (if 0 ≤ (wrap64 (2 * x37_6)) then (if (wrap64 (2 * x37_6)) < (x27_80.length : Int) then (if 0 ≤ (wrap64 ((wrap64 (2 * x37_6)) + 1)) then (if (wrap64 ((wrap64 (2 * x37_6)) + 1)) < (x27_80.length : Int) then ((impl_BalanceTurns.f kj108 (([(⟨(rd_T33 x27_80 (wrap64 (2 * x37_6))).f0, (rd_T33 x27_80 (wrap64 (2 * x37_6))).f1, (rd_T33 x27_80 (wrap64 (2 * x37_6))).f2⟩ : S33), (⟨(rd_T33 x27_80 (wrap64 ((wrap64 (2 * x37_6)) + 1))).f0, (rd_T33 x27_80 (wrap64 ((wrap64 (2 * x37_6)) + 1))).f1, (rd_T33 x27_80 (wrap64 ((wrap64 (2 * x37_6)) + 1))).f2⟩ : S33)] : List (S33)))).bind fun bt345 => (if bt337.2.2 = 0 then (if bt345.2.2 = 0 then (laws_FnPlies.l0 kj108 l1 t276 x27_80 t316 t317 y331 (wrap64 (x35_6 + bt337.2.1)) (wrap64 (x36_6 + bt345.2.1)) (wrap64 (x37_6 + 1))) else (none)) else (none))) else (none)) else (none)) else (none)) else (none))) = some r := by first | (rw [hy334]; with_reducible exact H) | (have H2_ := (Option.bind_some _ _).symm.trans H; rw [hy334]; with_reducible exact H2_) | (have H2_ := (Option.bind_some _ _).symm.trans H; with_reducible exact H2_) | with_reducible exact H | (rw [hy334]; exact H) | exact H
      have Ny334 := Aside0.mk hy334
      clear hy334
      replace H := Option.bind_eq_some_iff.mp H
      obtain ⟨⟨t337, t338, t339⟩, A1390, H⟩ := H
      replace H : (if 0 ≤ (wrap64 (2 * x37_6)) then (if (wrap64 (2 * x37_6)) < (x27_80.length : Int) then (if 0 ≤ (wrap64 ((wrap64 (2 * x37_6)) + 1)) then (if (wrap64 ((wrap64 (2 * x37_6)) + 1)) < (x27_80.length : Int) then ((impl_BalanceTurns.f kj108 (([(⟨(rd_T33 x27_80 (wrap64 (2 * x37_6))).f0, (rd_T33 x27_80 (wrap64 (2 * x37_6))).f1, (rd_T33 x27_80 (wrap64 (2 * x37_6))).f2⟩ : S33), (⟨(rd_T33 x27_80 (wrap64 ((wrap64 (2 * x37_6)) + 1))).f0, (rd_T33 x27_80 (wrap64 ((wrap64 (2 * x37_6)) + 1))).f1, (rd_T33 x27_80 (wrap64 ((wrap64 (2 * x37_6)) + 1))).f2⟩ : S33)] : List (S33)))).bind fun bt345 => (if t339 = 0 then (if bt345.2.2 = 0 then (laws_FnPlies.l0 kj108 l1 t276 x27_80 t316 t317 y331 (wrap64 (x35_6 + t338)) (wrap64 (x36_6 + bt345.2.1)) (wrap64 (x37_6 + 1))) else (none)) else (none))) else (none)) else (none)) else (none)) else (none)) = some r := H
      have A139 := Aside0.mk A1390
      clear A1390
      obtain ⟨ji140, hji140⟩ : ∃ j_ : Int, (wrap64 (2 * x37_6)) = j_ := ⟨_, rfl⟩
      replace H : (if 0 ≤ (ji140) then (if (ji140) < (x27_80.length : Int) then (if 0 ≤ (wrap64 ((ji140) + 1)) then (if (wrap64 ((ji140) + 1)) < (x27_80.length : Int) then ((impl_BalanceTurns.f kj108 (([(⟨(rd_T33 x27_80 (ji140)).f0, (rd_T33 x27_80 (ji140)).f1, (rd_T33 x27_80 (ji140)).f2⟩ : S33), (⟨(rd_T33 x27_80 (wrap64 ((ji140) + 1))).f0, (rd_T33 x27_80 (wrap64 ((ji140) + 1))).f1, (rd_T33 x27_80 (wrap64 ((ji140) + 1))).f2⟩ : S33)] : List (S33)))).bind fun bt345 => (if t339 = 0 then (if bt345.2.2 = 0 then (laws_FnPlies.l0 kj108 l1 t276 x27_80 t316 t317 y331 (wrap64 (x35_6 + t338)) (wrap64 (x36_6 + bt345.2.1)) (wrap64 (x37_6 + 1))) else (none)) else (none))) else (none)) else (none)) else (none)) else (none)) = some r := by first | (rw [hji140] at H; exact H) | (simp only [hji140] at H ⊢; exact H)
      (try rw [hji140] at A139)
      have hji140w : (IntKind.i64.wrap (2 * x37_6)) = ji140 := (i64_w _).trans hji140
      by_cases c141 : 0 ≤ (ji140)
      rotate_left
      · rw [if_neg c141] at H
        exact absurd H (by simp)
      rw [if_pos c141] at H
      have c141b0 : decide (0 ≤ (ji140)) = true := decide_eq_true c141
      clear c141
      by_cases c142 : (ji140) < (x27_80.length : Int)
      rotate_left
      · rw [if_neg c142] at H
        exact absurd H (by simp)
      rw [if_pos c142] at H
      have c142b0 : decide ((ji140) < (x27_80.length : Int)) = true := decide_eq_true c142
      clear c142
      obtain ⟨ji143, hji143⟩ : ∃ j_ : Int, (wrap64 ((ji140) + 1)) = j_ := ⟨_, rfl⟩
      replace H : (if 0 ≤ (ji143) then (if (ji143) < (x27_80.length : Int) then ((impl_BalanceTurns.f kj108 (([(⟨(rd_T33 x27_80 (ji140)).f0, (rd_T33 x27_80 (ji140)).f1, (rd_T33 x27_80 (ji140)).f2⟩ : S33), (⟨(rd_T33 x27_80 (ji143)).f0, (rd_T33 x27_80 (ji143)).f1, (rd_T33 x27_80 (ji143)).f2⟩ : S33)] : List (S33)))).bind fun bt345 => (if t339 = 0 then (if bt345.2.2 = 0 then (laws_FnPlies.l0 kj108 l1 t276 x27_80 t316 t317 y331 (wrap64 (x35_6 + t338)) (wrap64 (x36_6 + bt345.2.1)) (wrap64 (x37_6 + 1))) else (none)) else (none))) else (none)) else (none)) = some r := by first | (rw [hji143] at H; exact H) | (simp only [hji143] at H ⊢; exact H)
      (try rw [hji143] at A139)
      have hji143w : (IntKind.i64.wrap ((ji140) + 1)) = ji143 := (i64_w _).trans hji143
      by_cases c144 : 0 ≤ (ji143)
      rotate_left
      · rw [if_neg c144] at H
        exact absurd H (by simp)
      rw [if_pos c144] at H
      have c144b0 : decide (0 ≤ (ji143)) = true := decide_eq_true c144
      clear c144
      by_cases c145 : (ji143) < (x27_80.length : Int)
      rotate_left
      · rw [if_neg c145] at H
        exact absurd H (by simp)
      rw [if_pos c145] at H
      have c145b0 : decide ((ji143) < (x27_80.length : Int)) = true := decide_eq_true c145
      clear c145
      obtain ⟨y342, hy342⟩ : ∃ y_ : List (S33), y_ = (([(⟨(rd_T33 x27_80 (ji140)).f0, (rd_T33 x27_80 (ji140)).f1, (rd_T33 x27_80 (ji140)).f2⟩ : S33), (⟨(rd_T33 x27_80 (ji143)).f0, (rd_T33 x27_80 (ji143)).f1, (rd_T33 x27_80 (ji143)).f2⟩ : S33)] : List (S33))) := ⟨_, rfl⟩
      replace H : ((impl_BalanceTurns.f kj108 y342).bind fun bt345 => (if t339 = 0 then (if bt345.2.2 = 0 then (laws_FnPlies.l0 kj108 l1 t276 x27_80 t316 t317 y331 (wrap64 (x35_6 + t338)) (wrap64 (x36_6 + bt345.2.1)) (wrap64 (x37_6 + 1))) else (none)) else (none))) = some r := by first | (rw [hy342]; with_reducible exact H) | (have H2_ := (Option.bind_some _ _).symm.trans H; rw [hy342]; with_reducible exact H2_) | (have H2_ := (Option.bind_some _ _).symm.trans H; with_reducible exact H2_) | with_reducible exact H | (rw [hy342]; exact H) | exact H
      have Ny342 := Aside0.mk hy342
      clear hy342
      replace H := Option.bind_eq_some_iff.mp H
      obtain ⟨⟨t345, t346, t347⟩, A1460, H⟩ := H
      replace H : (if t339 = 0 then (if t347 = 0 then (laws_FnPlies.l0 kj108 l1 t276 x27_80 t316 t317 y331 (wrap64 (x35_6 + t338)) (wrap64 (x36_6 + t346)) (wrap64 (x37_6 + 1))) else (none)) else (none)) = some r := H
      have A146 := Aside0.mk A1460
      clear A1460
      by_cases c147 : t339 = 0
      rotate_left
      · rw [if_neg c147] at H
        exact absurd H (by simp)
      rw [if_pos c147] at H
      have c147b0 : (t339 == 0) = true := beq_iff_eq.mpr c147
      have c147b1 : (t339 != 0) = false := bne_eq_false_iff_eq.mpr c147
      clear c147
      by_cases c148 : t347 = 0
      rotate_left
      · rw [if_neg c148] at H
        exact absurd H (by simp)
      rw [if_pos c148] at H
      have c148b0 : (t347 == 0) = true := beq_iff_eq.mpr c148
      have c148b1 : (t347 != 0) = false := bne_eq_false_iff_eq.mpr c148
      clear c148
      have H' := Aside0.mk H
      clear H
      have p133 : 0 ≤ (((rd_T41 t316 x37_6).f0) : Int) := zd
      have q133 : (((rd_T41 t316 x37_6).f0) : Int) < ((x34_6.length : Int) : Int) := zd
      obtain ⟨go133, co133, eo133, gb133, gl133, cl133, HG133⟩ := Kd.R_form HO_34.out (by omega)
      (first | cases eo133 | (injection eo133 with ea_ en_ ec_; (first | subst ea_ | (injection ea_ with ea_; subst ea_)); subst ec_; clear en_))
      have GB133 := Aside0.mk gb133
      have GG133 := Aside0.mk HG133
      clear gb133 gl133 HG133
      obtain ⟨hx133_0, hf133_0⟩ := Kd.R_celln false HO_34.out (((rd_T41 t316 x37_6).f0) : Int) p133 q133
      replace p133 := eq_true p133
      replace q133 := eq_true q133
      have HP149 := Kd.R_putg HO_34.out (((rd_T41 t316 x37_6).f0) : Int) true
      try go_wp2_with (first | ((with_reducible refine gate_store (t := 4) (p := 342) rfl ?_); refine store_event (t := 4) (p := 342) (v := ?vo_w150) (w1 := (wc.setCell ⟨go133, (((rd_T41 t316 x37_6).f0) : Int).toNat, none⟩ (.bool true))) ?hg ?ho ?hn ?hr ?_; (case ho => rfl); (case hg => rfl); (case hn => rfl); (case hr => first | (go_simp; done) | (go_simp; rfl)); intro w150 hw; have hg : wc.grownBy w150 (some go133) := (by rw [hw]; exact HP149.2); have hp_ : Kd.R Kd.bool 4 w150 w.heap.size (fun _ => True) (.slice (some ⟨go133, 0, none⟩) x34_6.length co133) y330 := (by rw [hw, Ny330.out]; exact HP149.1); clear HP149; refine up5 (Kd.V_afterv (v := (.slice (some ⟨go133, 0, none⟩) x34_6.length co133)) (v1 := (.slice (some ⟨go133, 0, none⟩) x34_6.length co133)) (ok := (fun k_ => some k_ ≠ (.slice (some ad325) t316.length co110 : Value).ownBlock)) (zv HO_5.out) hg (.inl rfl)) (Kd.V_afterv (v := (.slice (some ⟨go133, 0, none⟩) x34_6.length co133)) (v1 := (.slice (some ⟨go133, 0, none⟩) x34_6.length co133)) (ok := (fun k_ => some k_ ≠ (.slice (some ad325) t316.length co110 : Value).ownBlock)) (zv HO_27.out) hg (.inl rfl)) (Kd.R_over' (v := (.slice (some ⟨go133, 0, none⟩) x34_6.length co133)) (zw HO_31.out) (Kd.R_typed HO_34.out) (by decide) hg) (hp_) ((by rw [hw]; exact below_set (HB.out) GB133.out : Below w.heap.size w w150)) ?_; clear HO_5 HO_27 HO_31 HO_34 HB; intro HO_5 HO_27 HO_31 HO_34 HB; clear hg hw hp_; have p136 : 0 ≤ (((rd_T41 t316 x37_6).f1) : Int) := zd; have q136 : (((rd_T41 t316 x37_6).f1) : Int) < ((x34_6.length : Int) : Int) := zd; obtain ⟨hx136_0, hf136_0⟩ := Kd.R_celln false HO_34.out (((rd_T41 t316 x37_6).f1) : Int) p136 q136; replace p136 := eq_true p136; replace q136 := eq_true q136; obtain ⟨hy151_, hz151_⟩ := Kd.R_celln false HO_34.out (((rd_T41 t316 x37_6).f1) : Int) (zd) (zd); have HP151 := Kd.R_putg HO_34.out (((rd_T41 t316 x37_6).f1) : Int) true) | ((with_reducible refine gate_store (t := 4) (p := 345) rfl ?_); refine store_event (t := 4) (p := 345) (v := ?vo_w152) (w1 := (w150.setCell ⟨go133, (((rd_T41 t316 x37_6).f1) : Int).toNat, none⟩ (.bool true))) ?hg ?ho ?hn ?hr ?_; (case ho => rfl); (case hg => rfl); (case hn => rfl); (case hr => first | (go_simp; done) | (go_simp; rfl)); intro w152 hw; have hg : w150.grownBy w152 (some go133) := (by rw [hw]; exact HP151.2); have hp_ : Kd.R Kd.bool 4 w152 w.heap.size (fun _ => True) (.slice (some ⟨go133, 0, none⟩) x34_6.length co133) y331 := (by rw [hw, Ny331.out]; exact HP151.1); clear HP151; refine up5 (Kd.V_afterv (v := (.slice (some ⟨go133, 0, none⟩) x34_6.length co133)) (v1 := (.slice (some ⟨go133, 0, none⟩) x34_6.length co133)) (ok := (fun k_ => some k_ ≠ (.slice (some ad325) t316.length co110 : Value).ownBlock)) (zv HO_5.out) hg (.inl rfl)) (Kd.V_afterv (v := (.slice (some ⟨go133, 0, none⟩) x34_6.length co133)) (v1 := (.slice (some ⟨go133, 0, none⟩) x34_6.length co133)) (ok := (fun k_ => some k_ ≠ (.slice (some ad325) t316.length co110 : Value).ownBlock)) (zv HO_27.out) hg (.inl rfl)) (Kd.R_over' (v := (.slice (some ⟨go133, 0, none⟩) x34_6.length co133)) (zw HO_31.out) (Kd.R_typed HO_34.out) (by decide) hg) (hp_) ((by rw [hw]; exact below_set (HB.out) GB133.out : Below w.heap.size w w152)) ?_; clear HO_5 HO_27 HO_31 HO_34 HB; intro HO_5 HO_27 HO_31 HO_34 HB; clear hg hw hp_))
      refine up5 (Kd.V_drew HO_5.out) (Kd.V_drew HO_27.out) (Kd.R_drew HO_31.out) (Kd.R_drew HO_34.out) (below_drew1 HB.out) ?_
      clear HO_5 HO_27 HO_31 HO_34 HB
      intro HO_5 HO_27 HO_31 HO_34 HB
      have p332 : 0 ≤ (((rd_T41 t316 x37_6).f0) : Int) := zd
      have q332 : ((rd_T41 t316 x37_6).f0) < (x27_80.length : Int) := zd
      obtain ⟨ad332, e332, hx332_0, hx332_1, hx332_2⟩ := at_T33 (Kd.V_reads' HO_27.out).2.2 ((rd_T41 t316 x37_6).f0) p332 q332
      cases e332
      replace p332 := eq_true p332
      replace q332 := eq_true q332
      have p333 : 0 ≤ (((rd_T41 t316 x37_6).f1) : Int) := zd
      have q333 : ((rd_T41 t316 x37_6).f1) < (x27_80.length : Int) := zd
      obtain ⟨ad333, e333, hx333_0, hx333_1, hx333_2⟩ := at_T33 (Kd.V_reads' HO_27.out).2.2 ((rd_T41 t316 x37_6).f1) p333 q333
      obtain rfl : ad332 = ad333 := (by injection e333)
      replace p333 := eq_true p333
      replace q333 := eq_true q333
      refine start_ (n := 17) (S := fun w' => w'.cell? (ad332.add ((((rd_T41 t316 x37_6).f0)).toNat * 3)) = some (.int .i16 ((rd_T33 x27_80 ((rd_T41 t316 x37_6).f0)).f0)) ∧ w'.cell? ⟨(ad332.add ((((rd_T41 t316 x37_6).f0)).toNat * 3)).block, (ad332.add ((((rd_T41 t316 x37_6).f0)).toNat * 3)).off + 1, none⟩ = some (.int .i16 ((rd_T33 x27_80 ((rd_T41 t316 x37_6).f0)).f1)) ∧ w'.cell? ⟨(ad332.add ((((rd_T41 t316 x37_6).f0)).toNat * 3)).block, (ad332.add ((((rd_T41 t316 x37_6).f0)).toNat * 3)).off + 2, none⟩ = some (.int .i16 ((rd_T33 x27_80 ((rd_T41 t316 x37_6).f0)).f2)) ∧ w'.cell? (ad332.add ((((rd_T41 t316 x37_6).f1)).toNat * 3)) = some (.int .i16 ((rd_T33 x27_80 ((rd_T41 t316 x37_6).f1)).f0)) ∧ w'.cell? ⟨(ad332.add ((((rd_T41 t316 x37_6).f1)).toNat * 3)).block, (ad332.add ((((rd_T41 t316 x37_6).f1)).toNat * 3)).off + 1, none⟩ = some (.int .i16 ((rd_T33 x27_80 ((rd_T41 t316 x37_6).f1)).f1)) ∧ w'.cell? ⟨(ad332.add ((((rd_T41 t316 x37_6).f1)).toNat * 3)).block, (ad332.add ((((rd_T41 t316 x37_6).f1)).toNat * 3)).off + 2, none⟩ = some (.int .i16 ((rd_T33 x27_80 ((rd_T41 t316 x37_6).f1)).f2))) (ds := []) #[false, false, false, false, false, false, false, false, false, false, false, false, false, false, false, false, false] (by kernel_rfl) rfl rfl ⟨hx332_0, hx332_1, hx332_2, hx333_0, hx333_1, hx333_2⟩ (fun hHeld => ?_); refine with_tabW laws_FnPlies.tab40 laws_FnPlies.bits40 (fun HT_ HW_ => ?_)
      generalize w152.drew = w153 at HO_5 HO_27 HO_31 HO_34 HB hx332_0 hx332_1 hx332_2 hx333_0 hx333_1 hx333_2 hHeld ⊢
      refine pure_ (i := 0) (N := some 347) #[true, false, false, false, false, false, false, false, false, false, false, false, false, false, false, false, false] rfl rfl (any_of HT_.out (by kernel_rfl)) (fun _ _ _ h => h) (Or.inl ⟨by rfl, zy⟩) za ?_
      refine pure_ (i := 1) (N := some 348) #[true, true, false, false, false, false, false, false, false, false, false, false, false, false, false, false, false] rfl rfl (any_of HT_.out (by kernel_rfl)) (fun _ _ _ h => h) (Or.inl ⟨by rfl, zy⟩) za ?_
      refine pure_ (i := 2) (N := some 349) #[true, true, true, false, false, false, false, false, false, false, false, false, false, false, false, false, false] rfl rfl (any_of HT_.out (by kernel_rfl)) (fun _ _ _ h => h) (Or.inl ⟨by rfl, zy⟩) za ?_
      refine pure_ (i := 4) (N := some 351) #[true, true, true, false, true, false, false, false, false, false, false, false, false, false, false, false, false] rfl rfl (any_of HT_.out (by kernel_rfl)) (fun _ _ _ h => h) (Or.inl ⟨by rfl, zy⟩) za ?_
      refine pure_ (i := 5) (N := some 352) #[true, true, true, false, true, true, false, false, false, false, false, false, false, false, false, false, false] rfl rfl (any_of HT_.out (by kernel_rfl)) (fun _ _ _ h => h) (Or.inl ⟨by rfl, zy⟩) za ?_
      refine pure_ (i := 6) (N := some 353) #[true, true, true, false, true, true, true, false, false, false, false, false, false, false, false, false, false] rfl rfl (any_of HT_.out (by kernel_rfl)) (fun _ _ _ h => h) (Or.inl ⟨by rfl, zy⟩) za ?_
      refine take_ (i := 3) (N := some 350) #[true, true, true, true, true, true, true, false, false, false, false, false, false, false, false, false, false] rfl rfl (take_ofW HT_.out HW_.out (by kernel_rfl)) (fun _ _ _ h => h) (Or.inl ⟨by rfl, zt6⟩) hHeld za ?_
      refine take_ (i := 7) (N := some 354) #[true, true, true, true, true, true, true, true, false, false, false, false, false, false, false, false, false] rfl rfl (take_ofW HT_.out HW_.out (by kernel_rfl)) (fun _ _ _ h => h) (Or.inl ⟨by rfl, zt6⟩) hHeld za ?_
      refine one_ (i := 8) (N := some 355) #[true, true, true, true, true, true, true, true, true, false, false, false, false, false, false, false, false] rfl rfl (one_of HT_.out (by kernel_rfl)) (by decide) (fun K hK => ?_)
      refine Kd.R_lit_step k33 _ 33 ?hg (N := 355) ?hd (xs := ([(⟨(rd_T33 x27_80 ((rd_T41 t316 x37_6).f0)).f0, (rd_T33 x27_80 ((rd_T41 t316 x37_6).f0)).f1, (rd_T33 x27_80 ((rd_T41 t316 x37_6).f0)).f2⟩ : S33), (⟨(rd_T33 x27_80 ((rd_T41 t316 x37_6).f1)).f0, (rd_T33 x27_80 ((rd_T41 t316 x37_6).f1)).f1, (rd_T33 x27_80 ((rd_T41 t316 x37_6).f1)).f2⟩ : S33)] : List (S33))) (inner := [.int .i16 ((rd_T33 x27_80 ((rd_T41 t316 x37_6).f0)).f0), .int .i16 ((rd_T33 x27_80 ((rd_T41 t316 x37_6).f0)).f1), .int .i16 ((rd_T33 x27_80 ((rd_T41 t316 x37_6).f0)).f2), .int .i16 ((rd_T33 x27_80 ((rd_T41 t316 x37_6).f1)).f0), .int .i16 ((rd_T33 x27_80 ((rd_T41 t316 x37_6).f1)).f1), .int .i16 ((rd_T33 x27_80 ((rd_T41 t316 x37_6).f1)).f2)]) (ok := fun _ => True) (okp := fun _ => True) ?hr ?hp (fun _ hk => hk) trivial (Below.refl _ _) (Nat.le_refl _) (by simp) ?_; (case hd => rfl); (case hg => rfl); (case hr => first | (go_simp; done) | (go_simp; rfl)); (case hp => exact (Reps.c3 (show Kd.M k33 _ _ _ (⟨(rd_T33 x27_80 ((rd_T41 t316 x37_6).f0)).f0, (rd_T33 x27_80 ((rd_T41 t316 x37_6).f0)).f1, (rd_T33 x27_80 ((rd_T41 t316 x37_6).f0)).f2⟩ : S33) [.int .i16 ((rd_T33 x27_80 ((rd_T41 t316 x37_6).f0)).f0), .int .i16 ((rd_T33 x27_80 ((rd_T41 t316 x37_6).f0)).f1), .int .i16 ((rd_T33 x27_80 ((rd_T41 t316 x37_6).f0)).f2)] from (k33_mkM _ _ _ (⟨(rd_T33 x27_80 ((rd_T41 t316 x37_6).f0)).f0, (rd_T33 x27_80 ((rd_T41 t316 x37_6).f0)).f1, (rd_T33 x27_80 ((rd_T41 t316 x37_6).f0)).f2⟩ : S33) )) (Reps.c3 (show Kd.M k33 _ _ _ (⟨(rd_T33 x27_80 ((rd_T41 t316 x37_6).f1)).f0, (rd_T33 x27_80 ((rd_T41 t316 x37_6).f1)).f1, (rd_T33 x27_80 ((rd_T41 t316 x37_6).f1)).f2⟩ : S33) [.int .i16 ((rd_T33 x27_80 ((rd_T41 t316 x37_6).f1)).f0), .int .i16 ((rd_T33 x27_80 ((rd_T41 t316 x37_6).f1)).f1), .int .i16 ((rd_T33 x27_80 ((rd_T41 t316 x37_6).f1)).f2)] from (k33_mkM _ _ _ (⟨(rd_T33 x27_80 ((rd_T41 t316 x37_6).f1)).f0, (rd_T33 x27_80 ((rd_T41 t316 x37_6).f1)).f1, (rd_T33 x27_80 ((rd_T41 t316 x37_6).f1)).f2⟩ : S33) )) (Reps.none _ _))))
      intro v335 w154 ho155 hb hg_ hnew_
      have HS0_ := (hb.cell (World.block_lt_of_cell? _ _ (hHeld.1))).trans (hHeld.1)
      have HS1_ := (hb.cell (World.block_lt_of_cell? _ _ (hHeld.2.1))).trans (hHeld.2.1)
      have HS2_ := (hb.cell (World.block_lt_of_cell? _ _ (hHeld.2.2.1))).trans (hHeld.2.2.1)
      have HS3_ := (hb.cell (World.block_lt_of_cell? _ _ (hHeld.2.2.2.1))).trans (hHeld.2.2.2.1)
      have HS4_ := (hb.cell (World.block_lt_of_cell? _ _ (hHeld.2.2.2.2.1))).trans (hHeld.2.2.2.2.1)
      have HS5_ := (hb.cell (World.block_lt_of_cell? _ _ (hHeld.2.2.2.2.2))).trans (hHeld.2.2.2.2.2)
      clear hg_ hnew_
      (first | rw [← Ny334.out] at ho155 | (simp only [Int.reduceToNat] at ho155; rw [← Ny334.out] at ho155) | (simp only [Int.toNat_natCast] at ho155; rw [← Ny334.out] at ho155))
      refine up6 (Kd.V_elder' (zv HO_5.out) (Kd.R_base ho155) hb) (Kd.V_elder' (zv HO_27.out) (Kd.R_base ho155) hb) (Kd.R_below (zw HO_31.out) hb) (Kd.R_below (zw HO_34.out) hb) (Kd.R_lower ho155 (below_size (zb HB.out))) (below_step (zb HB.out) hb) ?_
      clear HO_5 HO_27 HO_31 HO_34 HB
      intro HO_5 HO_27 HO_31 HO_34 HO336 HB
      clear hb ho155
      obtain ⟨Ao156, co156, eo156⟩ := Kd.R_slice HO336.out
      (first | subst eo156 | (injection eo156 with f1_ f2_ f3_; have f4_ := f1_.symm; have f5_ := f3_.symm; clear f1_ f2_ f3_; subst f4_; subst f5_))
      refine hK.out _ _ ⟨HS0_, HS1_, HS2_, HS3_, HS4_, HS5_⟩ (fun hHeld => ?_)
      clear hK K
      refine norm_ za ?_
      refine one_ (i := 9) (N := some 356) #[true, true, true, true, true, true, true, true, true, true, false, false, false, false, false, false, false] rfl rfl (one_of HT_.out (by kernel_rfl)) (by decide) (fun K hK => ?_)
      refine goes_ Try.func7 (by kernel_rfl) rfl #[.slice Ao156 y334.length co156] (by rfl) rfl rfl zr ?_
      with_reducible refine (impl_BalanceTurns.calls kj108 _ _ y334 t337 t338 t339 _ ?side1 ?side2 A139.out).mono ?_
      (case side1 => exact zk (Kd.R_reads' HO336.out).2.2)
      (case side2 => exact (Kd.R_reads' HO336.out).2.1)
      rintro e w157 ⟨rfl, hb⟩
      have HS0_ := (hb.cell (World.block_lt_of_cell? _ _ (hHeld.1))).trans (hHeld.1)
      have HS1_ := (hb.cell (World.block_lt_of_cell? _ _ (hHeld.2.1))).trans (hHeld.2.1)
      have HS2_ := (hb.cell (World.block_lt_of_cell? _ _ (hHeld.2.2.1))).trans (hHeld.2.2.1)
      have HS3_ := (hb.cell (World.block_lt_of_cell? _ _ (hHeld.2.2.2.1))).trans (hHeld.2.2.2.1)
      have HS4_ := (hb.cell (World.block_lt_of_cell? _ _ (hHeld.2.2.2.2.1))).trans (hHeld.2.2.2.2.1)
      have HS5_ := (hb.cell (World.block_lt_of_cell? _ _ (hHeld.2.2.2.2.2))).trans (hHeld.2.2.2.2.2)
      refine ⟨_, rfl, ?_⟩
      refine up6 (Kd.V_below (zv HO_5.out) hb) (Kd.V_below (zv HO_27.out) hb) (Kd.R_below (zw HO_31.out) hb) (Kd.R_below (zw HO_34.out) hb) (Kd.R_below (zw HO336.out) hb) (below_step (zb HB.out) hb) ?_
      clear HO_5 HO_27 HO_31 HO_34 HO336 HB
      intro HO_5 HO_27 HO_31 HO_34 HO336 HB
      (try clear hb)
      (try clear hb2)
      (try clear hk)
      (try clear hi)
      refine hK.out _ _ ⟨HS0_, HS1_, HS2_, HS3_, HS4_, HS5_⟩ (fun hHeld => ?_)
      clear hK K
      refine norm_ za ?_
      refine pure_ (i := 10) (N := some 346) #[true, true, true, true, true, true, true, true, true, true, true, false, false, false, false, false, false] rfl rfl (any_of HT_.out (by kernel_rfl)) (fun _ _ _ h => h) (Or.inl ⟨by rfl, zy⟩) za ?_
      refine pure_ (i := 11) (N := some 357) #[true, true, true, true, true, true, true, true, true, true, true, true, false, false, false, false, false] rfl rfl (any_of HT_.out (by kernel_rfl)) (fun _ _ _ h => h) (Or.inl ⟨by rfl, zy⟩) za ?_
      refine pure_ (i := 12) (N := some 358) #[true, true, true, true, true, true, true, true, true, true, true, true, true, false, false, false, false] rfl rfl (any_of HT_.out (by kernel_rfl)) (fun _ _ _ h => h) (Or.inl ⟨by rfl, zy⟩) za ?_
      refine pure_ (i := 13) (N := some 359) #[true, true, true, true, true, true, true, true, true, true, true, true, true, true, false, false, false] rfl rfl (any_of HT_.out (by kernel_rfl)) (fun _ _ _ h => h) (Or.inl ⟨by rfl, zy⟩) za ?_
      refine pure_ (i := 14) (N := some 40) #[true, true, true, true, true, true, true, true, true, true, true, true, true, true, true, false, false] rfl rfl (any_of HT_.out (by kernel_rfl)) (fun _ _ _ h => h) (Or.inl ⟨by rfl, zy⟩) za ?_
      refine pure_ (i := 15) (N := some 41) #[true, true, true, true, true, true, true, true, true, true, true, true, true, true, true, true, false] rfl rfl (any_of HT_.out (by kernel_rfl)) (fun _ _ _ h => h) (Or.inl ⟨by rfl, zy⟩) za ?_
      refine pure_ (i := 16) (N := some 42) #[true, true, true, true, true, true, true, true, true, true, true, true, true, true, true, true, true] rfl rfl (any_of HT_.out (by kernel_rfl)) (fun _ _ _ h => h) (Or.inl ⟨by rfl, zy⟩) za ?_
      refine done_ (done_of HT_.out (by kernel_rfl)) ?_
      try go_wp2
      refine up6 (Kd.V_drew HO_5.out) (Kd.V_drew HO_27.out) (Kd.R_drew HO_31.out) (Kd.R_drew HO_34.out) (Kd.R_drew HO336.out) (below_drew1 HB.out) ?_
      clear HO_5 HO_27 HO_31 HO_34 HO336 HB
      intro HO_5 HO_27 HO_31 HO_34 HO336 HB
      have p340 : 0 ≤ ((ji140) : Int) := zd
      have q340 : (ji140) < (x27_80.length : Int) := zd
      obtain ⟨ad340, e340, hx340_0, hx340_1, hx340_2⟩ := at_T33 (Kd.V_reads' HO_27.out).2.2 (ji140) p340 q340
      obtain rfl : ad332 = ad340 := (by injection e340)
      replace p340 := eq_true p340
      replace q340 := eq_true q340
      have p341 : 0 ≤ ((ji143) : Int) := zd
      have q341 : (ji143) < (x27_80.length : Int) := zd
      obtain ⟨ad341, e341, hx341_0, hx341_1, hx341_2⟩ := at_T33 (Kd.V_reads' HO_27.out).2.2 (ji143) p341 q341
      obtain rfl : ad332 = ad341 := (by injection e341)
      replace p341 := eq_true p341
      replace q341 := eq_true q341
      refine start_ (n := 20) (S := fun w' => w'.cell? (ad332.add (((ji140)).toNat * 3)) = some (.int .i16 ((rd_T33 x27_80 (ji140)).f0)) ∧ w'.cell? ⟨(ad332.add (((ji140)).toNat * 3)).block, (ad332.add (((ji140)).toNat * 3)).off + 1, none⟩ = some (.int .i16 ((rd_T33 x27_80 (ji140)).f1)) ∧ w'.cell? ⟨(ad332.add (((ji140)).toNat * 3)).block, (ad332.add (((ji140)).toNat * 3)).off + 2, none⟩ = some (.int .i16 ((rd_T33 x27_80 (ji140)).f2)) ∧ w'.cell? (ad332.add (((ji143)).toNat * 3)) = some (.int .i16 ((rd_T33 x27_80 (ji143)).f0)) ∧ w'.cell? ⟨(ad332.add (((ji143)).toNat * 3)).block, (ad332.add (((ji143)).toNat * 3)).off + 1, none⟩ = some (.int .i16 ((rd_T33 x27_80 (ji143)).f1)) ∧ w'.cell? ⟨(ad332.add (((ji143)).toNat * 3)).block, (ad332.add (((ji143)).toNat * 3)).off + 2, none⟩ = some (.int .i16 ((rd_T33 x27_80 (ji143)).f2))) (ds := []) #[false, false, false, false, false, false, false, false, false, false, false, false, false, false, false, false, false, false, false, false] (by kernel_rfl) rfl rfl ⟨hx340_0, hx340_1, hx340_2, hx341_0, hx341_1, hx341_2⟩ (fun hHeld => ?_); refine with_tabW laws_FnPlies.tab41 laws_FnPlies.bits41 (fun HT_ HW_ => ?_)
      generalize w157.drew = w158 at HO_5 HO_27 HO_31 HO_34 HO336 HB hx340_0 hx340_1 hx340_2 hx341_0 hx341_1 hx341_2 hHeld ⊢
      refine pure_ (i := 0) (N := some 361) #[true, false, false, false, false, false, false, false, false, false, false, false, false, false, false, false, false, false, false, false] rfl rfl (any_of HT_.out (by kernel_rfl)) (fun _ _ _ h => h) (Or.inl ⟨by rfl, zy⟩) za ?_
      refine pure_ (i := 1) (N := some 362) #[true, true, false, false, false, false, false, false, false, false, false, false, false, false, false, false, false, false, false, false] rfl rfl (any_of HT_.out (by kernel_rfl)) (fun _ _ _ h => h) (Or.inl ⟨by rfl, zy⟩) za ?_
      refine pure_ (i := 2) (N := some 363) #[true, true, true, false, false, false, false, false, false, false, false, false, false, false, false, false, false, false, false, false] rfl rfl (any_of HT_.out (by kernel_rfl)) (fun _ _ _ h => h) (Or.inl ⟨by rfl, zy⟩) za ?_
      refine pure_ (i := 3) (N := some 364) #[true, true, true, true, false, false, false, false, false, false, false, false, false, false, false, false, false, false, false, false] rfl rfl (any_of HT_.out (by kernel_rfl)) (fun _ _ _ h => h) (Or.inl ⟨by rfl, zy⟩) za ?_
      refine pure_ (i := 5) (N := some 366) #[true, true, true, true, false, true, false, false, false, false, false, false, false, false, false, false, false, false, false, false] rfl rfl (any_of HT_.out (by kernel_rfl)) (fun _ _ _ h => h) (Or.inl ⟨by rfl, zy⟩) za ?_
      refine pure_ (i := 6) (N := some 367) #[true, true, true, true, false, true, true, false, false, false, false, false, false, false, false, false, false, false, false, false] rfl rfl (any_of HT_.out (by kernel_rfl)) (fun _ _ _ h => h) (Or.inl ⟨by rfl, zy⟩) za ?_
      refine pure_ (i := 7) (N := some 368) #[true, true, true, true, false, true, true, true, false, false, false, false, false, false, false, false, false, false, false, false] rfl rfl (any_of HT_.out (by kernel_rfl)) (fun _ _ _ h => h) (Or.inl ⟨by rfl, zy⟩) za ?_
      refine pure_ (i := 8) (N := some 369) #[true, true, true, true, false, true, true, true, true, false, false, false, false, false, false, false, false, false, false, false] rfl rfl (any_of HT_.out (by kernel_rfl)) (fun _ _ _ h => h) (Or.inl ⟨by rfl, zy⟩) za ?_
      refine pure_ (i := 9) (N := some 370) #[true, true, true, true, false, true, true, true, true, true, false, false, false, false, false, false, false, false, false, false] rfl rfl (any_of HT_.out (by kernel_rfl)) (fun _ _ _ h => h) (Or.inl ⟨by rfl, zy⟩) za ?_
      refine take_ (i := 4) (N := some 365) #[true, true, true, true, true, true, true, true, true, true, false, false, false, false, false, false, false, false, false, false] rfl rfl (take_ofW HT_.out HW_.out (by kernel_rfl)) (fun _ _ _ h => h) (Or.inl ⟨by rfl, zt6⟩) hHeld za ?_
      refine take_ (i := 10) (N := some 371) #[true, true, true, true, true, true, true, true, true, true, true, false, false, false, false, false, false, false, false, false] rfl rfl (take_ofW HT_.out HW_.out (by kernel_rfl)) (fun _ _ _ h => h) (Or.inl ⟨by rfl, zt6⟩) hHeld za ?_
      refine one_ (i := 11) (N := some 372) #[true, true, true, true, true, true, true, true, true, true, true, true, false, false, false, false, false, false, false, false] rfl rfl (one_of HT_.out (by kernel_rfl)) (by decide) (fun K hK => ?_)
      refine Kd.R_lit_step k33 _ 33 ?hg (N := 372) ?hd (xs := ([(⟨(rd_T33 x27_80 (ji140)).f0, (rd_T33 x27_80 (ji140)).f1, (rd_T33 x27_80 (ji140)).f2⟩ : S33), (⟨(rd_T33 x27_80 (ji143)).f0, (rd_T33 x27_80 (ji143)).f1, (rd_T33 x27_80 (ji143)).f2⟩ : S33)] : List (S33))) (inner := [.int .i16 ((rd_T33 x27_80 (ji140)).f0), .int .i16 ((rd_T33 x27_80 (ji140)).f1), .int .i16 ((rd_T33 x27_80 (ji140)).f2), .int .i16 ((rd_T33 x27_80 (ji143)).f0), .int .i16 ((rd_T33 x27_80 (ji143)).f1), .int .i16 ((rd_T33 x27_80 (ji143)).f2)]) (ok := fun _ => True) (okp := fun _ => True) ?hr ?hp (fun _ hk => hk) trivial (Below.refl _ _) (Nat.le_refl _) (by simp) ?_; (case hd => rfl); (case hg => rfl); (case hr => first | (go_simp; done) | (go_simp; rfl)); (case hp => exact (Reps.c3 (show Kd.M k33 _ _ _ (⟨(rd_T33 x27_80 (ji140)).f0, (rd_T33 x27_80 (ji140)).f1, (rd_T33 x27_80 (ji140)).f2⟩ : S33) [.int .i16 ((rd_T33 x27_80 (ji140)).f0), .int .i16 ((rd_T33 x27_80 (ji140)).f1), .int .i16 ((rd_T33 x27_80 (ji140)).f2)] from (k33_mkM _ _ _ (⟨(rd_T33 x27_80 (ji140)).f0, (rd_T33 x27_80 (ji140)).f1, (rd_T33 x27_80 (ji140)).f2⟩ : S33) )) (Reps.c3 (show Kd.M k33 _ _ _ (⟨(rd_T33 x27_80 (ji143)).f0, (rd_T33 x27_80 (ji143)).f1, (rd_T33 x27_80 (ji143)).f2⟩ : S33) [.int .i16 ((rd_T33 x27_80 (ji143)).f0), .int .i16 ((rd_T33 x27_80 (ji143)).f1), .int .i16 ((rd_T33 x27_80 (ji143)).f2)] from (k33_mkM _ _ _ (⟨(rd_T33 x27_80 (ji143)).f0, (rd_T33 x27_80 (ji143)).f1, (rd_T33 x27_80 (ji143)).f2⟩ : S33) )) (Reps.none _ _))))
      intro v343 w159 ho160 hb hg_ hnew_
      have HS0_ := (hb.cell (World.block_lt_of_cell? _ _ (hHeld.1))).trans (hHeld.1)
      have HS1_ := (hb.cell (World.block_lt_of_cell? _ _ (hHeld.2.1))).trans (hHeld.2.1)
      have HS2_ := (hb.cell (World.block_lt_of_cell? _ _ (hHeld.2.2.1))).trans (hHeld.2.2.1)
      have HS3_ := (hb.cell (World.block_lt_of_cell? _ _ (hHeld.2.2.2.1))).trans (hHeld.2.2.2.1)
      have HS4_ := (hb.cell (World.block_lt_of_cell? _ _ (hHeld.2.2.2.2.1))).trans (hHeld.2.2.2.2.1)
      have HS5_ := (hb.cell (World.block_lt_of_cell? _ _ (hHeld.2.2.2.2.2))).trans (hHeld.2.2.2.2.2)
      clear hg_ hnew_
      (first | rw [← Ny342.out] at ho160 | (simp only [Int.reduceToNat] at ho160; rw [← Ny342.out] at ho160) | (simp only [Int.toNat_natCast] at ho160; rw [← Ny342.out] at ho160))
      refine up7 (Kd.V_elder' (zv HO_5.out) (Kd.R_base ho160) hb) (Kd.V_elder' (zv HO_27.out) (Kd.R_base ho160) hb) (Kd.R_below (zw HO_31.out) hb) (Kd.R_below (zw HO_34.out) hb) (Kd.R_elder' (zw HO336.out) (Kd.R_base ho160) hb) (Kd.R_lower (Kd.R_new' ho160 (Kd.R_lt (zw HO336.out))) (below_size (zb HB.out))) (below_step (zb HB.out) hb) ?_
      clear HO_5 HO_27 HO_31 HO_34 HO336 HB
      intro HO_5 HO_27 HO_31 HO_34 HO336 HO344 HB
      clear hb ho160
      obtain ⟨Ao161, co161, eo161⟩ := Kd.R_slice HO344.out
      (first | subst eo161 | (injection eo161 with f1_ f2_ f3_; have f4_ := f1_.symm; have f5_ := f3_.symm; clear f1_ f2_ f3_; subst f4_; subst f5_))
      refine hK.out _ _ ⟨HS0_, HS1_, HS2_, HS3_, HS4_, HS5_⟩ (fun hHeld => ?_)
      clear hK K
      refine norm_ za ?_
      refine one_ (i := 12) (N := some 373) #[true, true, true, true, true, true, true, true, true, true, true, true, true, false, false, false, false, false, false, false] rfl rfl (one_of HT_.out (by kernel_rfl)) (by decide) (fun K hK => ?_)
      refine goes_ Try.func7 (by kernel_rfl) rfl #[.slice Ao161 y342.length co161] (by rfl) rfl rfl zr ?_
      with_reducible refine (impl_BalanceTurns.calls kj108 _ _ y342 t345 t346 t347 _ ?side1 ?side2 A146.out).mono ?_
      (case side1 => exact zk (Kd.R_reads' HO344.out).2.2)
      (case side2 => exact (Kd.R_reads' HO344.out).2.1)
      rintro e w162 ⟨rfl, hb⟩
      have HS0_ := (hb.cell (World.block_lt_of_cell? _ _ (hHeld.1))).trans (hHeld.1)
      have HS1_ := (hb.cell (World.block_lt_of_cell? _ _ (hHeld.2.1))).trans (hHeld.2.1)
      have HS2_ := (hb.cell (World.block_lt_of_cell? _ _ (hHeld.2.2.1))).trans (hHeld.2.2.1)
      have HS3_ := (hb.cell (World.block_lt_of_cell? _ _ (hHeld.2.2.2.1))).trans (hHeld.2.2.2.1)
      have HS4_ := (hb.cell (World.block_lt_of_cell? _ _ (hHeld.2.2.2.2.1))).trans (hHeld.2.2.2.2.1)
      have HS5_ := (hb.cell (World.block_lt_of_cell? _ _ (hHeld.2.2.2.2.2))).trans (hHeld.2.2.2.2.2)
      refine ⟨_, rfl, ?_⟩
      refine up7 (Kd.V_below (zv HO_5.out) hb) (Kd.V_below (zv HO_27.out) hb) (Kd.R_below (zw HO_31.out) hb) (Kd.R_below (zw HO_34.out) hb) (Kd.R_below (zw HO336.out) hb) (Kd.R_below (zw HO344.out) hb) (below_step (zb HB.out) hb) ?_
      clear HO_5 HO_27 HO_31 HO_34 HO336 HO344 HB
      intro HO_5 HO_27 HO_31 HO_34 HO336 HO344 HB
      (try clear hb)
      (try clear hk)
      refine hK.out _ _ ⟨HS0_, HS1_, HS2_, HS3_, HS4_, HS5_⟩ (fun hHeld => ?_)
      clear hK K
      refine norm_ za ?_
      refine pure_ (i := 13) (N := some 360) #[true, true, true, true, true, true, true, true, true, true, true, true, true, true, false, false, false, false, false, false] rfl rfl (any_of HT_.out (by kernel_rfl)) (fun _ _ _ h => h) (Or.inl ⟨by rfl, zy⟩) za ?_
      refine pure_ (i := 14) (N := some 374) #[true, true, true, true, true, true, true, true, true, true, true, true, true, true, true, false, false, false, false, false] rfl rfl (any_of HT_.out (by kernel_rfl)) (fun _ _ _ h => h) (Or.inl ⟨by rfl, zy⟩) za ?_
      refine pure_ (i := 15) (N := some 375) #[true, true, true, true, true, true, true, true, true, true, true, true, true, true, true, true, false, false, false, false] rfl rfl (any_of HT_.out (by kernel_rfl)) (fun _ _ _ h => h) (Or.inl ⟨by rfl, zy⟩) za ?_
      refine pure_ (i := 16) (N := some 376) #[true, true, true, true, true, true, true, true, true, true, true, true, true, true, true, true, true, false, false, false] rfl rfl (any_of HT_.out (by kernel_rfl)) (fun _ _ _ h => h) (Or.inl ⟨by rfl, zy⟩) za ?_
      refine pure_ (i := 17) (N := some 43) #[true, true, true, true, true, true, true, true, true, true, true, true, true, true, true, true, true, true, false, false] rfl rfl (any_of HT_.out (by kernel_rfl)) (fun _ _ _ h => h) (Or.inl ⟨by rfl, zy⟩) za ?_
      refine pure_ (i := 18) (N := some 44) #[true, true, true, true, true, true, true, true, true, true, true, true, true, true, true, true, true, true, true, false] rfl rfl (any_of HT_.out (by kernel_rfl)) (fun _ _ _ h => h) (Or.inl ⟨by rfl, zy⟩) za ?_
      refine pure_ (i := 19) (N := some 45) #[true, true, true, true, true, true, true, true, true, true, true, true, true, true, true, true, true, true, true, true] rfl rfl (any_of HT_.out (by kernel_rfl)) (fun _ _ _ h => h) (Or.inl ⟨by rfl, zy⟩) za ?_
      refine done_ (done_of HT_.out (by kernel_rfl)) ?_
      try go_wp2
      go_roundg kj108
      case measure => have := HJ86.out; have := HK6.out; have := HJ108.out; omega
      case rel => exact ⟨(y331), (wrap64 (x35_6 + t338)), (wrap64 (x36_6 + t346)), (wrap64 (x37_6 + 1)), zx, zx, zx, H', ⟨by have := HJ86.out; have := HK6.out; have := HJ108.out; omega⟩, ⟨by (with_reducible repeat (first | apply Kd.V_alloc | apply Kd.V_drewN | apply Kd.V_drew)); exact Kd.V_mono HO_5.out (fun _ hk => ⟨hk.1.1.1, hk.1.1.2⟩)⟩, ⟨by (with_reducible repeat (first | apply Kd.V_alloc | apply Kd.V_drewN | apply Kd.V_drew)); exact Kd.V_mono HO_27.out (fun _ hk => ⟨hk.1.1.1, hk.1.1.2⟩)⟩, ⟨zw HO_31.out⟩, ⟨zw HO_34.out⟩, ⟨zb HB.out⟩⟩
   rw [if_neg c107] at H
   have c107b0 : decide (x37_6 < (t316.length : Int)) = false := decide_eq_false c107
   clear c107
   have HC163 := Aside0.mk H
   clear H
   obtain ⟨Ao164, co164, eo164⟩ := Kd.R_slice HO_31.out
   subst eo164
   go_upto_region 46 with (fail)
   go_cut [396] from 1000 to 1001 (fun v396 wc => ∃ (kq : Nat) (x396_162 : Bool), v396 = .bool x396_162 ∧ Aside0 (laws_FnPlies.j8 kq l1 t276 x396_162 = some r) ∧ Aside0 (kq ≤ k6) ∧ Aside0 (Kd.V k33 33 wc w.heap.size (fun _ => True) (.slice Ao17 t276.length co17) t276) ∧ Aside0 (Below w.heap.size w wc))
   case first =>
    have H := HC163.out
    clear HC163
    by_cases c165 : x35_6 = t317
    rotate_left
    · rw [if_neg c165] at H
      have c165b0 : (x35_6 == t317) = false := beq_eq_false_iff_ne.mpr c165
      have c165b1 : (x35_6 != t317) = true := bne_iff_ne.mpr c165
      (first | rw [c165b0] | (simp only [i64_w, i32_w]; rw [c165b0]) | skip)
      have H' := Aside0.mk H
      clear H
      go_wp2
      go_meet
      case rel => exact ⟨_, (true), zx, H', ⟨by have := HJ86.out; have := HK6.out; first | omega | exact Nat.le_refl _⟩, ⟨by (with_reducible repeat (first | apply Kd.V_alloc | apply Kd.V_drewN | apply Kd.V_drew)); exact Kd.V_mono HO_5.out (fun _ hk => trivial)⟩, ⟨zb HB.out⟩⟩
    rw [if_pos c165] at H
    have c165b0 : (x35_6 == t317) = true := beq_iff_eq.mpr c165
    have c165b1 : (x35_6 != t317) = false := bne_eq_false_iff_eq.mpr c165
    clear c165
    (first | rw [c165b0] | (simp only [i64_w, i32_w]; rw [c165b0]) | skip)
    have H' := Aside0.mk H
    clear H
    go_wp2
    go_meet
    case rel => exact ⟨_, (decide (x36_6 < t317)), zx, H', ⟨by have := HJ86.out; have := HK6.out; first | omega | exact Nat.le_refl _⟩, ⟨by (with_reducible repeat (first | apply Kd.V_alloc | apply Kd.V_drewN | apply Kd.V_drew)); exact Kd.V_mono HO_5.out (fun _ hk => trivial)⟩, ⟨zb HB.out⟩⟩
   case rest =>
   obtain ⟨kq, x396_162, rfl, HA, HJ162, HO_5, HB⟩ := hcut
   cases x396_162 with
   | true => exact absurd HA.out (by cases kq <;> simp [laws_FnPlies.j8])
   | false =>
    go_step
    go_step
    first | exact laws_FnPlies.p7 (by kernel_rfl) HR1 HC1 ⟨kq, HA, HJ162, HO_5, HB⟩ | (go_step; first | exact laws_FnPlies.p7 (by kernel_rfl) HR1 HC1 ⟨kq, HA, HJ162, HO_5, HB⟩ | (go_step; first | exact laws_FnPlies.p7 (by kernel_rfl) HR1 HC1 ⟨kq, HA, HJ162, HO_5, HB⟩ | (go_step; exact laws_FnPlies.p7 (by kernel_rfl) HR1 HC1 ⟨kq, HA, HJ162, HO_5, HB⟩)))
set_option maxHeartbeats 8000000 in
set_option maxRecDepth 100000 in
theorem laws_FnPlies.p3 {A0 A1 Ao17 : Option Addr} {c0 c1 co17 kj13 : Nat} {l0 l1 : List Int} {r : Bool} {w wc : World} {u70 u71 u72 u73 u74 u4 u17 u18 u19 u20 u21 u22 u23 u24 u25 u26 u105 u106 u107 u108 u109 u110 u111 u112 u113 u114 u115 u116 u117 u118 u119 u120 u121 u122 u123 u124 u125 u126 u127 u128 u129 u130 u131 u132 u133 u134 u135 u136 u137 u138 u139 u140 u141 u142 u143 u144 u145 u146 u147 u148 u149 u150 u151 u152 u153 u154 u155 u156 u157 u158 u159 u160 u161 u162 u163 u164 u165 u166 u167 u168 u169 u170 u171 u172 u173 u174 u175 u176 u177 u178 u179 u180 u181 u182 u183 u184 u185 u186 u187 u188 u189 u190 u191 u192 u193 u194 u195 u196 u197 u198 u199 u200 u201 u202 u203 u204 u205 u206 u207 u208 u209 u210 u211 u212 u213 u214 u215 u216 u217 u218 u219 u220 u221 u222 u223 u224 u225 u226 u227 u228 u229 u230 u231 u232 u233 u234 u235 u236 : Value} {t276 : List S33} {t279 t280 t281 t282 t283 t284 t285 t286 t287 t288 t289 : Int} {c : Code} (hcode : c = laws_FnPlies.tail 21) (HR1 : Aside0 ((Kd.int IntKind.u8).C w A1 l1.length l1)) (HC1 : Aside0 (l1.length ≤ c1)) (hcut : ∃ kq, Aside0 (j3 kq l1 t276 = some r) ∧ Aside0 (kq ≤ kj13) ∧ Aside0 (k33.V 33 wc w.heap.size (fun x => True) (Value.slice Ao17 t276.length co17) t276) ∧ Aside0 (Below w.heap.size w wc)) :
    Code.wp Try.prog c (bodyPost Try.prog Try.f3 fun e w' => e = Ending.returned (Value.bool r) ∧ Below w.heap.size w w') { tmps := #[Value.slice A0 l0.length c0, Value.slice A1 l1.length c1, undef, undef, u4, Value.slice Ao17 t276.length co17, Value.int IntKind.i64 (wrap64 (t279 - 150)), Value.int IntKind.i64 t280, Value.int IntKind.i64 t281, Value.int IntKind.i64 t282, Value.int IntKind.i64 t283, Value.int IntKind.i64 t284, Value.int IntKind.i64 t285, Value.int IntKind.i64 t286, Value.int IntKind.i64 t287, Value.int IntKind.i64 t288, Value.int IntKind.i64 t289, u17, u18, u19, u20, u21, u22, u23, u24, u25, u26, undef, undef, undef, undef, undef, undef, undef, undef, undef, undef, undef, undef, undef, undef, undef, undef, undef, undef, undef, undef, undef, undef, undef, undef, undef, undef, undef, undef, undef, undef, undef, undef, undef, undef, undef, undef, undef, undef, undef, undef, undef, undef, undef, u70, u71, u72, u73, u74, Value.bool false, Value.slice A0 l0.length c0, Value.slice Ao17 t276.length co17, Value.slice A1 l1.length c1, Value.int IntKind.i64 t279, Value.int IntKind.i64 (wrap64 (t279 - 150)), Value.tuple #[Value.int IntKind.i64 t280, Value.int IntKind.i64 t281, Value.int IntKind.i64 t282], Value.slice Ao17 t276.length co17, Value.tuple #[Value.int IntKind.i64 t280, Value.int IntKind.i64 t281, Value.int IntKind.i64 t282], Value.int IntKind.i64 t280, Value.int IntKind.i64 t281, Value.int IntKind.i64 t282, Value.tuple #[Value.int IntKind.i64 t283, Value.int IntKind.i64 t284, Value.int IntKind.i64 t285], Value.slice Ao17 t276.length co17, Value.tuple #[Value.int IntKind.i64 t283, Value.int IntKind.i64 t284, Value.int IntKind.i64 t285], Value.int IntKind.i64 t283, Value.int IntKind.i64 t284, Value.int IntKind.i64 t285, Value.tuple #[Value.int IntKind.i64 t286, Value.int IntKind.i64 t287], Value.slice Ao17 t276.length co17, Value.int IntKind.i64 (wrap64 (t279 - 150)), Value.tuple #[Value.int IntKind.i64 t286, Value.int IntKind.i64 t287], Value.int IntKind.i64 t286, Value.int IntKind.i64 t287, Value.tuple #[Value.int IntKind.i64 t288, Value.int IntKind.i64 t289], Value.slice Ao17 t276.length co17, Value.int IntKind.i64 (wrap64 (t279 - 150)), Value.tuple #[Value.int IntKind.i64 t288, Value.int IntKind.i64 t289], Value.int IntKind.i64 t288, Value.int IntKind.i64 t289, u105, u106, u107, u108, u109, u110, u111, u112, u113, u114, u115, u116, u117, u118, u119, u120, u121, u122, u123, u124, u125, u126, u127, u128, u129, u130, u131, u132, u133, u134, u135, u136, u137, u138, u139, u140, u141, u142, u143, u144, u145, u146, u147, u148, u149, u150, u151, u152, u153, u154, u155, u156, u157, u158, u159, u160, u161, u162, u163, u164, u165, u166, u167, u168, u169, u170, u171, u172, u173, u174, u175, u176, u177, u178, u179, u180, u181, u182, u183, u184, u185, u186, u187, u188, u189, u190, u191, u192, u193, u194, u195, u196, u197, u198, u199, u200, u201, u202, u203, u204, u205, u206, u207, u208, u209, u210, u211, u212, u213, u214, u215, u216, u217, u218, u219, u220, u221, u222, u223, u224, u225, u226, u227, u228, u229, u230, u231, u232, u233, u234, u235, u236, undef, undef, undef, undef, undef, undef, undef, undef, undef, undef, undef, undef, undef, undef, undef, undef, undef, undef, undef, undef, undef, undef, undef, undef, undef, undef, undef, undef, undef, undef, undef, undef, undef, undef, undef, undef, undef, undef, undef, undef, undef, undef, undef, undef, undef, undef, undef, undef, undef, undef, undef, undef, undef, undef, undef, undef, undef, undef, undef, undef, undef, undef, undef, undef, undef, undef, undef, undef, undef, undef, undef, undef, undef, undef, undef, undef, undef, undef, undef, undef, undef, undef, undef, undef, undef, undef, undef, undef, undef, undef, undef, undef, undef, undef, undef, undef, undef, undef, undef, undef, undef, undef, undef, undef, undef, undef, undef, undef, undef, undef, undef, undef, undef, undef, undef, undef, undef, undef, undef, undef, undef, undef, undef, undef, undef, undef, undef, undef, undef, undef, undef, undef, undef, undef, undef, undef, undef, undef, undef, undef, undef, undef, undef, undef, undef, undef, undef, undef, undef, undef, undef, undef, undef, undef, undef, undef, undef, undef, undef, undef, undef, undef, undef, undef, undef, undef, undef, undef, undef, undef, undef, undef, undef, undef, undef, undef, undef, undef, undef, undef, undef, undef, undef, undef, undef, undef, undef, undef, undef, undef, undef, undef, undef, undef, undef, undef, undef, undef, undef, undef, undef, undef, undef, undef, undef, undef, undef, undef, undef, undef, undef, undef, undef, undef, undef, undef, undef, undef, undef, undef, undef, undef, undef, undef, undef, undef, undef, undef, undef, undef, undef, undef, undef, undef, undef, undef, undef, undef, undef, undef, undef, undef, undef, undef, undef, undef, undef, undef, undef, undef, undef, undef, undef, undef, undef, undef, undef, undef, undef, undef, undef, undef, undef, undef, undef, undef, undef, undef, undef, undef, undef, undef, undef, undef, undef, undef, undef, undef, undef, undef, undef, undef, undef, undef, undef, undef, undef, undef, undef, undef, undef, undef, undef, undef, undef, undef, undef, undef, undef, undef, undef, undef, undef, undef, undef, undef, undef, undef, undef, undef, undef, undef, undef, undef, undef, undef, undef, undef, undef, undef, undef, undef, undef, undef, undef, undef, undef, undef, undef, undef, undef, undef, undef, undef, undef, undef, undef, undef, undef, undef, undef, undef, undef], defers := [] } wc := by
 have hu33 := Try.underlying33
 have hu43 := Try.underlying43
 subst hcode
 conv => arg 2; whnf
 obtain ⟨kq, HA, HJ29, HO_5, HB⟩ := hcut
 cases kq with
 | zero => exact absurd HA.out (by simp [laws_FnPlies.j3])
 | succ kj29 =>
  have H := HA.out
  clear HA
  simp only [laws_FnPlies.j3] at H
  have HC81 := Aside0.mk H
  clear H
  go_upto_if 241 with (fail)
  go_cut [27] from 152 to 241 (fun v27 wc => ∃ (kq : Nat) (x27_80 : List (S33)), Aside0 (laws_FnPlies.j4 kq l1 t276 x27_80 = some r) ∧ Aside0 (kq ≤ kj29) ∧ Aside0 (Kd.V k33 33 wc w.heap.size (fun _ => True) (.slice Ao17 t276.length co17) t276) ∧ Aside0 (Kd.V k33 33 wc w.heap.size (fun _ => True) v27 x27_80) ∧ Aside0 (Below w.heap.size w wc))
  case first =>
   have H := HC81.out
   clear HC81
   by_cases c82 : ((t276.length : Int) % 2) = 1
   rotate_left
   · rw [if_neg c82] at H
     have c82b0 : (((t276.length : Int) % 2) == 1) = false := beq_eq_false_iff_ne.mpr c82
     have c82b1 : (((t276.length : Int) % 2) != 1) = true := bne_iff_ne.mpr c82
     (first | rw [c82b0] | (simp only [i64_w, i32_w]; rw [c82b0]) | skip)
     have H' := Aside0.mk H
     clear H
     go_wp2
     go_meet
     case rel => exact ⟨_, (t276), H', ⟨by have := HJ29.out; first | omega | exact Nat.le_refl _⟩, ⟨zv HO_5.out⟩, ⟨zv HO_5.out⟩, ⟨zb HB.out⟩⟩
   rw [if_pos c82] at H
   have c82b0 : (((t276.length : Int) % 2) == 1) = true := beq_iff_eq.mpr c82
   have c82b1 : (((t276.length : Int) % 2) != 1) = false := bne_eq_false_iff_eq.mpr c82
   clear c82
   (first | rw [c82b0] | (simp only [i64_w, i32_w]; rw [c82b0]) | skip)
   by_cases c83 : 1 ≤ (t276.length : Int)
   rotate_left
   · rw [if_neg c83] at H
     exact absurd H (by simp)
   rw [if_pos c83] at H
   have c83b0 := eq_true c83
   have c83b1 : decide (1 ≤ (t276.length : Int)) = true := decide_eq_true c83
   clear c83
   obtain ⟨y306, hy306⟩ : ∃ y_ : List (S33), y_ = (t276.drop 1) := ⟨_, rfl⟩
   replace H : (laws_FnPlies.j4 kj29 l1 t276 y306) = some r := by first | (rw [hy306]; with_reducible exact H) | (have H2_ := (Option.bind_some _ _).symm.trans H; rw [hy306]; with_reducible exact H2_) | (have H2_ := (Option.bind_some _ _).symm.trans H; with_reducible exact H2_) | with_reducible exact H | (rw [hy306]; exact H) | exact H
   have Ny306 := Aside0.mk hy306
   clear hy306
   have H' := Aside0.mk H
   clear H
   have q84 : (1 : Int) ≤ ((t276.length : Int) : Int) := zd
   obtain ⟨i084, hi084, _, hsz84, _⟩ := info_parts info33
   have hroom84 : t276.length ≤ co17 := (Kd.V_reads' HO_5.out).2.1
   have hC84 : Kd.F k33 _ _ Ao17 t276.length t276 := (Kd.V_at (base := w.heap.size) HO_5.out).2.2
   have hcut84 := cut_from (P := Try.prog) 24 33 .i64 Try.underlying24 hi084 3 hsz84 Ao17 t276.length co17 1 (by omega) q84
   have hr84 := Kd.F_cut (m := (1 : Int).toNat) (c := co17) hC84 (by omega) hroom84
   obtain ⟨A84, hA84⟩ : ∃ A1q_, A1q_ = (if co17 = (1 : Int).toNat then Ao17 else (Ao17 : Option Addr).map (·.add ((1 : Int).toNat * 3))) := ⟨_, rfl⟩
   obtain ⟨c84, hc84⟩ : ∃ c1q_, c1q_ = co17 - (1 : Int).toNat := ⟨_, rfl⟩
   have hy84 : y306.length = t276.length - (1 : Int).toNat := (by rw [Ny306.out, List.length_drop] <;> omega)
   rw [show (t276).drop (1 : Int).toNat = y306 from Ny306.out.symm] at hr84
   replace hr84 : Kd.F k33 _ _ A84 y306.length y306 := (by rw [hA84]; exact hr84)
   rw [← hy84, ← hA84, ← hc84] at hcut84
   have HO310 := Aside0.mk (show Kd.V k33 33 _ w.heap.size _ (.slice A84 y306.length c84) y306 from Kd.V_mk (by rw [hy84, hc84]; exact Nat.sub_le_sub_right hroom84 _) hr84)
   have HC310 := Aside0.mk (show y306.length ≤ c84 from by rw [hy84, hc84]; exact Nat.sub_le_sub_right hroom84 _)
   clear hr84 hC84 hroom84 hi084 hsz84 hc84
   have KY84 := Aside0.mk hy84
   have KA84 := Aside0.mk hA84
   clear hy84 hA84
   replace q84 := eq_true q84
   go_wp2
   go_meet
   case rel => exact ⟨_, (y306), H', ⟨by have := HJ29.out; first | omega | exact Nat.le_refl _⟩, ⟨zv HO_5.out⟩, ⟨zv HO310.out⟩, ⟨zb HB.out⟩⟩
  case rest =>
  clear HC81
  obtain ⟨kq, x27_80, HA, HJ80, HO_5, HO_27, HB⟩ := hcut
  cases kq with
  | zero => exact absurd HA.out (by simp [laws_FnPlies.j4])
  | succ kj80 =>
   have H := HA.out
   clear HA
   simp only [laws_FnPlies.j4] at H
   replace H := Option.bind_eq_some_iff.mp H
   obtain ⟨⟨t311, t312, t313⟩, A850, H⟩ := H
   replace H : ((spec_MatchSingles.f kj80 x27_80).bind fun bt316 => (if t313 = bt316.2.2 then (if t313 = 0 then ((spec_SamePairs.f kj80 t311 bt316.1).bind fun t321 => (if t321 = true then (if t312 = bt316.2.1 then (laws_FnPlies.j5 kj80 l1 t276 x27_80 bt316.1 bt316.2.1 ((wrap64 (2 * (bt316.1.length : Int))) != (x27_80.length : Int))) else (laws_FnPlies.j5 kj80 l1 t276 x27_80 bt316.1 bt316.2.1 true)) else (laws_FnPlies.j5 kj80 l1 t276 x27_80 bt316.1 bt316.2.1 true))) else (laws_FnPlies.j5 kj80 l1 t276 x27_80 bt316.1 bt316.2.1 true)) else (laws_FnPlies.j5 kj80 l1 t276 x27_80 bt316.1 bt316.2.1 true))) = some r := H
   have A85 := Aside0.mk A850
   clear A850
   replace H := Option.bind_eq_some_iff.mp H
   obtain ⟨⟨t316, t317, t318⟩, A860, H⟩ := H
   replace H : (if t313 = t318 then (if t313 = 0 then ((spec_SamePairs.f kj80 t311 t316).bind fun t321 => (if t321 = true then (if t312 = t317 then (laws_FnPlies.j5 kj80 l1 t276 x27_80 t316 t317 ((wrap64 (2 * (t316.length : Int))) != (x27_80.length : Int))) else (laws_FnPlies.j5 kj80 l1 t276 x27_80 t316 t317 true)) else (laws_FnPlies.j5 kj80 l1 t276 x27_80 t316 t317 true))) else (laws_FnPlies.j5 kj80 l1 t276 x27_80 t316 t317 true)) else (laws_FnPlies.j5 kj80 l1 t276 x27_80 t316 t317 true)) = some r := H
   have A86 := Aside0.mk A860
   clear A860
   have HC87 := Aside0.mk H
   clear H
   obtain ⟨Ao88, co88, eo88⟩ := Kd.V_slice HO_27.out
   subst eo88
   go_upto_region 26 with (first | ((with_reducible refine gate_callee (f := 15) rfl ?_); refine goesL_ (some 246) rfl rfl Try.func15 (by kernel_rfl) rfl #[.slice Ao88 x27_80.length co88] rfl zr ?_; (with_reducible refine (impl_MatchSingles.calls kj80 _ _ x27_80 t311 t312 t313 _ ?side1 ?side2 A85.out).mono ?_); (case side1 => exact zk (Kd.V_reads' HO_27.out).2.2); (case side2 => exact (Kd.V_reads' HO_27.out).2.1); rintro e w89 ⟨v314, rfl, ho0, hb⟩; refine ⟨_, rfl, ?_⟩; refine up4 (Kd.V_elder' (zv HO_5.out) (Kd.R_base ho0) hb) (Kd.V_elder' (zv HO_27.out) (Kd.R_base ho0) hb) (Kd.R_lower ho0 (below_size (zb HB.out))) (below_step (zb HB.out) hb) ?_; clear HO_5 HO_27 HB; intro HO_5 HO_27 HO315 HB; (try clear hb); (try clear hb2); (try clear hk); (try clear hi); (try clear ho0)) | ((with_reducible refine gate_callee (f := 16) rfl ?_); refine goesL_ (some 252) rfl rfl Try.func16 (by kernel_rfl) rfl #[.slice Ao88 x27_80.length co88] rfl zr ?_; (with_reducible refine (spec_MatchSingles.calls kj80 _ _ x27_80 t316 t317 t318 _ ?side1 ?side2 A86.out).mono ?_); (case side1 => exact zk (Kd.V_reads' HO_27.out).2.2); (case side2 => exact (Kd.V_reads' HO_27.out).2.1); rintro e w90 ⟨v319, rfl, ho0, hb⟩; refine ⟨_, rfl, ?_⟩; refine up5 (Kd.V_elder' (zv HO_5.out) (Kd.R_base ho0) hb) (Kd.V_elder' (zv HO_27.out) (Kd.R_base ho0) hb) (Kd.R_elder' (zw HO315.out) (Kd.R_base ho0) hb) (Kd.R_lower (Kd.R_new' ho0 (Kd.R_lt (zw HO315.out))) (below_size (zb HB.out))) (below_step (zb HB.out) hb) ?_; clear HO_5 HO_27 HO315 HB; intro HO_5 HO_27 HO315 HO320 HB; (try clear hb); (try clear hb2); (try clear hk); (try clear hi); (try clear ho0)))
   (try simp only [Act.put, List.setIfInBounds_toArray, List.set_cons_zero, List.set_cons_succ])
   go_cut [281] from 1000 to 1001 (fun v281 wc => ∃ (kq : Nat) (x281_86 : Bool), v281 = .bool x281_86 ∧ Aside0 (laws_FnPlies.j5 kq l1 t276 x27_80 t316 t317 x281_86 = some r) ∧ Aside0 (kq ≤ kj80) ∧ Aside0 (Kd.V k33 33 wc w.heap.size (fun k_ => some k_ ≠ (v319 : Value).ownBlock) (.slice Ao17 t276.length co17) t276) ∧ Aside0 (Kd.V k33 33 wc w.heap.size (fun k_ => some k_ ≠ (v319 : Value).ownBlock) (.slice Ao88 x27_80.length co88) x27_80) ∧ Aside0 (Kd.R k41 41 wc w.heap.size (fun _ => True) v319 t316) ∧ Aside0 (Below w.heap.size w wc))
   case first =>
    have H := HC87.out
    clear HC87
    by_cases c91 : t313 = t318
    rotate_left
    · rw [if_neg c91] at H
      have c91b0 : (t313 == t318) = false := beq_eq_false_iff_ne.mpr c91
      have c91b1 : (t313 != t318) = true := bne_iff_ne.mpr c91
      (first | rw [c91b0] | (simp only [i64_w, i32_w]; rw [c91b0]) | skip)
      have H' := Aside0.mk H
      clear H
      go_wp2
      go_meet
      case rel => exact ⟨_, (true), zx, H', ⟨by have := HJ29.out; have := HJ80.out; first | omega | exact Nat.le_refl _⟩, ⟨by (with_reducible repeat (first | apply Kd.V_alloc | apply Kd.V_drewN | apply Kd.V_drew)); exact Kd.V_mono HO_5.out (fun _ hk => hk.2)⟩, ⟨by (with_reducible repeat (first | apply Kd.V_alloc | apply Kd.V_drewN | apply Kd.V_drew)); exact Kd.V_mono HO_27.out (fun _ hk => hk.2)⟩, ⟨by (with_reducible repeat (first | apply Kd.R_alloc | apply Kd.R_drewN | apply Kd.R_drew)); exact Kd.R_mono HO320.out (fun _ hk => trivial)⟩, ⟨zb HB.out⟩⟩
    rw [if_pos c91] at H
    have c91b0 : (t313 == t318) = true := beq_iff_eq.mpr c91
    have c91b1 : (t313 != t318) = false := bne_eq_false_iff_eq.mpr c91
    clear c91
    (first | rw [c91b0] | (simp only [i64_w, i32_w]; rw [c91b0]) | skip)
    by_cases c92 : t313 = 0
    rotate_left
    · rw [if_neg c92] at H
      have c92b0 : (t313 == 0) = false := beq_eq_false_iff_ne.mpr c92
      have c92b1 : (t313 != 0) = true := bne_iff_ne.mpr c92
      have H' := Aside0.mk H
      clear H
      go_wp2
      go_meet
      case rel => exact ⟨_, (true), zx, H', ⟨by have := HJ29.out; have := HJ80.out; first | omega | exact Nat.le_refl _⟩, ⟨by (with_reducible repeat (first | apply Kd.V_alloc | apply Kd.V_drewN | apply Kd.V_drew)); exact Kd.V_mono HO_5.out (fun _ hk => hk.2)⟩, ⟨by (with_reducible repeat (first | apply Kd.V_alloc | apply Kd.V_drewN | apply Kd.V_drew)); exact Kd.V_mono HO_27.out (fun _ hk => hk.2)⟩, ⟨by (with_reducible repeat (first | apply Kd.R_alloc | apply Kd.R_drewN | apply Kd.R_drew)); exact Kd.R_mono HO320.out (fun _ hk => trivial)⟩, ⟨zb HB.out⟩⟩
    rw [if_pos c92] at H
    have c92b0 : (t313 == 0) = true := beq_iff_eq.mpr c92
    have c92b1 : (t313 != 0) = false := bne_eq_false_iff_eq.mpr c92
    clear c92
    replace H := Option.bind_eq_some_iff.mp H
    obtain ⟨t321, A930, H⟩ := H
    replace H : (if t321 = true then (if t312 = t317 then (laws_FnPlies.j5 kj80 l1 t276 x27_80 t316 t317 ((wrap64 (2 * (t316.length : Int))) != (x27_80.length : Int))) else (laws_FnPlies.j5 kj80 l1 t276 x27_80 t316 t317 true)) else (laws_FnPlies.j5 kj80 l1 t276 x27_80 t316 t317 true)) = some r := H
    have A93 := Aside0.mk A930
    clear A930
    by_cases c94 : t321 = true
    rotate_left
    · replace c94 := Bool.eq_false_iff.mpr c94
      subst c94
      have H1 : (laws_FnPlies.j5 kj80 l1 t276 x27_80 t316 t317 true) = some r := by rw [if_neg (show ¬ (false = true) by decide)] at H; exact H
      clear H
      have H := H1
      clear H1
      have H' := Aside0.mk H
      clear H
      obtain ⟨Ao100, co100, eo100⟩ := Kd.R_slice HO315.out
      subst eo100
      obtain ⟨Ao101, co101, eo101⟩ := Kd.R_slice HO320.out
      subst eo101
      go_wp2_with (first | (go_at_call 17; (with_reducible refine (spec_SamePairs.calls kj80 _ _ t311 _ _ t316 false _ ?side1 ?side2 ?side3 ?side4 A93.out).mono ?_); (case side1 => exact zk (Kd.R_reads' HO315.out).2.2); (case side2 => exact (Kd.R_reads' HO315.out).2.1); (case side3 => exact zk (Kd.R_reads' HO320.out).2.2); (case side4 => exact (Kd.R_reads' HO320.out).2.1); rintro e w' ⟨rfl, ⟨nd, rfl⟩⟩))
      go_meet
      case rel => exact ⟨_, (true), zx, H', ⟨by have := HJ29.out; have := HJ80.out; first | omega | exact Nat.le_refl _⟩, ⟨by (with_reducible repeat (first | apply Kd.V_alloc | apply Kd.V_drewN | apply Kd.V_drew)); exact Kd.V_mono HO_5.out (fun _ hk => hk.2)⟩, ⟨by (with_reducible repeat (first | apply Kd.V_alloc | apply Kd.V_drewN | apply Kd.V_drew)); exact Kd.V_mono HO_27.out (fun _ hk => hk.2)⟩, ⟨by (with_reducible repeat (first | apply Kd.R_alloc | apply Kd.R_drewN | apply Kd.R_drew)); exact Kd.R_mono HO320.out (fun _ hk => trivial)⟩, ⟨zb HB.out⟩⟩
    subst c94
    have H1 : (if t312 = t317 then (laws_FnPlies.j5 kj80 l1 t276 x27_80 t316 t317 ((wrap64 (2 * (t316.length : Int))) != (x27_80.length : Int))) else (laws_FnPlies.j5 kj80 l1 t276 x27_80 t316 t317 true)) = some r := by rw [if_pos rfl] at H; exact H
    clear H
    have H := H1
    clear H1
    by_cases c95 : t312 = t317
    rotate_left
    · rw [if_neg c95] at H
      have c95b0 : (t312 == t317) = false := beq_eq_false_iff_ne.mpr c95
      have c95b1 : (t312 != t317) = true := bne_iff_ne.mpr c95
      have H' := Aside0.mk H
      clear H
      obtain ⟨Ao98, co98, eo98⟩ := Kd.R_slice HO315.out
      subst eo98
      obtain ⟨Ao99, co99, eo99⟩ := Kd.R_slice HO320.out
      subst eo99
      go_wp2_with (first | (go_at_call 17; (with_reducible refine (spec_SamePairs.calls kj80 _ _ t311 _ _ t316 true _ ?side1 ?side2 ?side3 ?side4 A93.out).mono ?_); (case side1 => exact zk (Kd.R_reads' HO315.out).2.2); (case side2 => exact (Kd.R_reads' HO315.out).2.1); (case side3 => exact zk (Kd.R_reads' HO320.out).2.2); (case side4 => exact (Kd.R_reads' HO320.out).2.1); rintro e w' ⟨rfl, ⟨nd, rfl⟩⟩))
      go_meet
      case rel => exact ⟨_, (true), zx, H', ⟨by have := HJ29.out; have := HJ80.out; first | omega | exact Nat.le_refl _⟩, ⟨by (with_reducible repeat (first | apply Kd.V_alloc | apply Kd.V_drewN | apply Kd.V_drew)); exact Kd.V_mono HO_5.out (fun _ hk => hk.2)⟩, ⟨by (with_reducible repeat (first | apply Kd.V_alloc | apply Kd.V_drewN | apply Kd.V_drew)); exact Kd.V_mono HO_27.out (fun _ hk => hk.2)⟩, ⟨by (with_reducible repeat (first | apply Kd.R_alloc | apply Kd.R_drewN | apply Kd.R_drew)); exact Kd.R_mono HO320.out (fun _ hk => trivial)⟩, ⟨zb HB.out⟩⟩
    rw [if_pos c95] at H
    have c95b0 : (t312 == t317) = true := beq_iff_eq.mpr c95
    have c95b1 : (t312 != t317) = false := bne_eq_false_iff_eq.mpr c95
    clear c95
    have H' := Aside0.mk H
    clear H
    obtain ⟨Ao96, co96, eo96⟩ := Kd.R_slice HO315.out
    subst eo96
    obtain ⟨Ao97, co97, eo97⟩ := Kd.R_slice HO320.out
    subst eo97
    go_wp2_with (first | (go_at_call 17; (with_reducible refine (spec_SamePairs.calls kj80 _ _ t311 _ _ t316 true _ ?side1 ?side2 ?side3 ?side4 A93.out).mono ?_); (case side1 => exact zk (Kd.R_reads' HO315.out).2.2); (case side2 => exact (Kd.R_reads' HO315.out).2.1); (case side3 => exact zk (Kd.R_reads' HO320.out).2.2); (case side4 => exact (Kd.R_reads' HO320.out).2.1); rintro e w' ⟨rfl, ⟨nd, rfl⟩⟩))
    go_meet
    case rel => exact ⟨_, (((wrap64 (2 * (t316.length : Int))) != (x27_80.length : Int))), zx, H', ⟨by have := HJ29.out; have := HJ80.out; first | omega | exact Nat.le_refl _⟩, ⟨by (with_reducible repeat (first | apply Kd.V_alloc | apply Kd.V_drewN | apply Kd.V_drew)); exact Kd.V_mono HO_5.out (fun _ hk => hk.2)⟩, ⟨by (with_reducible repeat (first | apply Kd.V_alloc | apply Kd.V_drewN | apply Kd.V_drew)); exact Kd.V_mono HO_27.out (fun _ hk => hk.2)⟩, ⟨by (with_reducible repeat (first | apply Kd.R_alloc | apply Kd.R_drewN | apply Kd.R_drew)); exact Kd.R_mono HO320.out (fun _ hk => trivial)⟩, ⟨zb HB.out⟩⟩
   case rest =>
   obtain ⟨kq, x281_86, rfl, HA, HJ86, HO_5, HO_27, HO_31, HB⟩ := hcut
   cases x281_86 with
   | true => exact absurd HA.out (by cases kq <;> simp [laws_FnPlies.j5])
   | false =>
    go_step
    go_step
    first | exact laws_FnPlies.p5 (by kernel_rfl) HR1 HC1 ⟨kq, HA, HJ86, HO_5, HO_27, HO_31, HB⟩ | (go_step; first | exact laws_FnPlies.p5 (by kernel_rfl) HR1 HC1 ⟨kq, HA, HJ86, HO_5, HO_27, HO_31, HB⟩ | (go_step; first | exact laws_FnPlies.p5 (by kernel_rfl) HR1 HC1 ⟨kq, HA, HJ86, HO_5, HO_27, HO_31, HB⟩ | (go_step; exact laws_FnPlies.p5 (by kernel_rfl) HR1 HC1 ⟨kq, HA, HJ86, HO_5, HO_27, HO_31, HB⟩)))
set_option maxHeartbeats 8000000 in
set_option maxRecDepth 100000 in
theorem laws_FnPlies.calls (k : Nat) (A0 : Option Addr) (c0 : Nat) (l0 : List Int) (A1 : Option Addr) (c1 : Nat) (l1 : List Int) (r : Bool) (w : World) (hr0 : Kd.C (Kd.int .u8) w A0 l0.length l0) (hc0 : l0.length ≤ c0) (hr1 : Kd.C (Kd.int .u8) w A1 l1.length l1) (hc1 : l1.length ≤ c1) (h : laws_FnPlies.f k l0 l1 = some r) :
    Calls Try.prog 3 #[.slice A0 l0.length c0, .slice A1 l1.length c1] w fun e w' => e = .returned (.bool r) ∧ Below w.heap.size w w' := by
 have hu33 := Try.underlying33
 have hu43 := Try.underlying43
 have HR0 := Aside0.mk hr0
 have HC0 := Aside0.mk hc0
 clear hr0 hc0
 have HR1 := Aside0.mk hr1
 have HC1 := Aside0.mk hc1
 clear hr1 hc1
 have HB := Aside0.mk (Below.refl w.heap.size w)
 have H : ((laws_f6big.f l0).bind fun t274 => (if t274 = true then (laws_FnPlies.j0 k l0 l1 true) else ((laws_f6big.f l1).bind fun t275 => (laws_FnPlies.j0 k l0 l1 t275)))) = some r := h
 clear h
 have HC3 := Aside0.mk H
 clear H
 go_enter Try.func3, Try.ntmps3
 go_upto_region 1 with (fail)
 go_cut [75] from 1000 to 1001 (fun v75 wc => ∃ (kq : Nat) (x75_2 : Bool), v75 = .bool x75_2 ∧ Aside0 (laws_FnPlies.j0 kq l0 l1 x75_2 = some r) ∧ Aside0 (kq ≤ k) ∧ Aside0 (Below w.heap.size w wc))
 case first =>
  have H := HC3.out
  clear HC3
  replace H := Option.bind_eq_some_iff.mp H
  obtain ⟨t274, A40, H⟩ := H
  replace H : (if t274 = true then (laws_FnPlies.j0 k l0 l1 true) else ((laws_f6big.f l1).bind fun t275 => (laws_FnPlies.j0 k l0 l1 t275))) = some r := H
  have A4 := Aside0.mk A40
  clear A40
  by_cases c5 : t274 = true
  · subst c5
    have H1 : (laws_FnPlies.j0 k l0 l1 true) = some r := by rw [if_pos rfl] at H; exact H
    clear H
    have H := H1
    clear H1
    have H' := Aside0.mk H
    clear H
    go_wp2_with (first | ((with_reducible refine gate_callee (f := 4) rfl ?_); refine goesL_ (some 71) rfl rfl Try.func4 (by kernel_rfl) rfl #[.slice A0 l0.length c0] rfl zr ?_; (with_reducible refine (laws_f6big.calls _ _ l0 true _ ?side1 ?side2 A4.out).mono ?_); (case side1 => exact zk (Kd.C_below HR0.out HB.out)); (case side2 => exact HC0.out); rintro e w' ⟨rfl, ⟨nd, rfl⟩⟩; refine ⟨_, rfl, ?_⟩))
    go_meet
    case rel => exact ⟨_, (true), zx, H', ⟨by first | omega | exact Nat.le_refl _⟩, ⟨zb HB.out⟩⟩
  replace c5 := Bool.eq_false_iff.mpr c5
  subst c5
  have H1 : ((laws_f6big.f l1).bind fun t275 => (laws_FnPlies.j0 k l0 l1 t275)) = some r := by rw [if_neg (show ¬ (false = true) by decide)] at H; exact H
  clear H
  have H := H1
  clear H1
  replace H := Option.bind_eq_some_iff.mp H
  obtain ⟨t275, A60, H⟩ := H
  replace H : (laws_FnPlies.j0 k l0 l1 t275) = some r := H
  have A6 := Aside0.mk A60
  clear A60
  have H' := Aside0.mk H
  clear H
  go_wp2_with (first | ((with_reducible refine gate_callee (f := 4) rfl ?_); refine goesL_ (some 71) rfl rfl Try.func4 (by kernel_rfl) rfl #[.slice A0 l0.length c0] rfl zr ?_; (with_reducible refine (laws_f6big.calls _ _ l0 false _ ?side1 ?side2 A4.out).mono ?_); (case side1 => exact zk (Kd.C_below HR0.out HB.out)); (case side2 => exact HC0.out); rintro e w' ⟨rfl, ⟨nd, rfl⟩⟩; refine ⟨_, rfl, ?_⟩) | (go_at_call 4; (with_reducible refine (laws_f6big.calls _ _ l1 t275 _ ?side1 ?side2 A6.out).mono ?_); (case side1 => exact zk (Kd.C_below HR1.out (zb HB.out))); (case side2 => exact HC1.out); rintro e w' ⟨rfl, ⟨nd, rfl⟩⟩))
  go_meet
  case rel => exact ⟨_, (t275), zx, H', ⟨by first | omega | exact Nat.le_refl _⟩, ⟨zb HB.out⟩⟩
 case rest =>
 clear HC3
 try clear c1
 obtain ⟨kq, x75_2, rfl, HA, HJ2, HB⟩ := hcut
 cases kq with
 | zero => exact absurd HA.out (by simp [laws_FnPlies.j0])
 | succ kj2 =>
  have H := HA.out
  clear HA
  simp only [laws_FnPlies.j0] at H
  by_cases c7 : x75_2 = true
  · subst c7
    have H1 : (some true) = some r := by rw [if_pos rfl] at H; exact H
    clear H
    have H := H1
    clear H1
    obtain rfl := Option.some.inj H
    go_wp2
    go_ret
    exact ⟨zs, zb HB.out⟩
  replace c7 := Bool.eq_false_iff.mpr c7
  subst c7
  have H1 : ((spec_P6Yarns.f kj2 l0).bind fun t276 => ((spec_P6Pick.f l1 300).bind fun t279 => ((impl_BalanceTurns.f kj2 t276).bind fun bt280 => ((spec_BalanceTurns.f kj2 t276).bind fun bt283 => ((impl_RestOf.f kj2 t276 (wrap64 (t279 - 150))).bind fun bt286 => ((spec_RestOf.f kj2 t276 (wrap64 (t279 - 150))).bind fun bt288 => (if bt280.2.2 = bt283.2.2 then (if bt280.1 = bt283.1 then (if bt280.2.1 = bt283.2.1 then (if bt286.2 = bt288.2 then (if bt286.1 = bt288.1 then (if ((bt280.2.2 == 0) != (decide ((t276.length : Int) ≥ 2))) = true then (laws_FnPlies.j1 kj2 l1 t276 (wrap64 (t279 - 150)) bt280.2.2 bt283.1 bt283.2.1 bt288.1 true) else (if bt280.2.2 = 0 then (laws_FnPlies.j1 kj2 l1 t276 (wrap64 (t279 - 150)) bt280.2.2 bt283.1 bt283.2.1 bt288.1 false) else (laws_FnPlies.j1 kj2 l1 t276 (wrap64 (t279 - 150)) bt280.2.2 bt283.1 bt283.2.1 bt288.1 (bt280.2.2 != 4)))) else (laws_FnPlies.j1 kj2 l1 t276 (wrap64 (t279 - 150)) bt280.2.2 bt283.1 bt283.2.1 bt288.1 true)) else (laws_FnPlies.j1 kj2 l1 t276 (wrap64 (t279 - 150)) bt280.2.2 bt283.1 bt283.2.1 bt288.1 true)) else (laws_FnPlies.j1 kj2 l1 t276 (wrap64 (t279 - 150)) bt280.2.2 bt283.1 bt283.2.1 bt288.1 true)) else (laws_FnPlies.j1 kj2 l1 t276 (wrap64 (t279 - 150)) bt280.2.2 bt283.1 bt283.2.1 bt288.1 true)) else (laws_FnPlies.j1 kj2 l1 t276 (wrap64 (t279 - 150)) bt280.2.2 bt283.1 bt283.2.1 bt288.1 true)))))))) = some r := by rw [if_neg (show ¬ (false = true) by decide)] at H; exact H
  clear H
  have H := H1
  clear H1
  replace H := Option.bind_eq_some_iff.mp H
  obtain ⟨t276, A80, H⟩ := H
  replace H : ((spec_P6Pick.f l1 300).bind fun t279 => ((impl_BalanceTurns.f kj2 t276).bind fun bt280 => ((spec_BalanceTurns.f kj2 t276).bind fun bt283 => ((impl_RestOf.f kj2 t276 (wrap64 (t279 - 150))).bind fun bt286 => ((spec_RestOf.f kj2 t276 (wrap64 (t279 - 150))).bind fun bt288 => (if bt280.2.2 = bt283.2.2 then (if bt280.1 = bt283.1 then (if bt280.2.1 = bt283.2.1 then (if bt286.2 = bt288.2 then (if bt286.1 = bt288.1 then (if ((bt280.2.2 == 0) != (decide ((t276.length : Int) ≥ 2))) = true then (laws_FnPlies.j1 kj2 l1 t276 (wrap64 (t279 - 150)) bt280.2.2 bt283.1 bt283.2.1 bt288.1 true) else (if bt280.2.2 = 0 then (laws_FnPlies.j1 kj2 l1 t276 (wrap64 (t279 - 150)) bt280.2.2 bt283.1 bt283.2.1 bt288.1 false) else (laws_FnPlies.j1 kj2 l1 t276 (wrap64 (t279 - 150)) bt280.2.2 bt283.1 bt283.2.1 bt288.1 (bt280.2.2 != 4)))) else (laws_FnPlies.j1 kj2 l1 t276 (wrap64 (t279 - 150)) bt280.2.2 bt283.1 bt283.2.1 bt288.1 true)) else (laws_FnPlies.j1 kj2 l1 t276 (wrap64 (t279 - 150)) bt280.2.2 bt283.1 bt283.2.1 bt288.1 true)) else (laws_FnPlies.j1 kj2 l1 t276 (wrap64 (t279 - 150)) bt280.2.2 bt283.1 bt283.2.1 bt288.1 true)) else (laws_FnPlies.j1 kj2 l1 t276 (wrap64 (t279 - 150)) bt280.2.2 bt283.1 bt283.2.1 bt288.1 true)) else (laws_FnPlies.j1 kj2 l1 t276 (wrap64 (t279 - 150)) bt280.2.2 bt283.1 bt283.2.1 bt288.1 true))))))) = some r := H
  have A8 := Aside0.mk A80
  clear A80
  replace H := Option.bind_eq_some_iff.mp H
  obtain ⟨t279, A90, H⟩ := H
  replace H : ((impl_BalanceTurns.f kj2 t276).bind fun bt280 => ((spec_BalanceTurns.f kj2 t276).bind fun bt283 => ((impl_RestOf.f kj2 t276 (wrap64 (t279 - 150))).bind fun bt286 => ((spec_RestOf.f kj2 t276 (wrap64 (t279 - 150))).bind fun bt288 => (if bt280.2.2 = bt283.2.2 then (if bt280.1 = bt283.1 then (if bt280.2.1 = bt283.2.1 then (if bt286.2 = bt288.2 then (if bt286.1 = bt288.1 then (if ((bt280.2.2 == 0) != (decide ((t276.length : Int) ≥ 2))) = true then (laws_FnPlies.j1 kj2 l1 t276 (wrap64 (t279 - 150)) bt280.2.2 bt283.1 bt283.2.1 bt288.1 true) else (if bt280.2.2 = 0 then (laws_FnPlies.j1 kj2 l1 t276 (wrap64 (t279 - 150)) bt280.2.2 bt283.1 bt283.2.1 bt288.1 false) else (laws_FnPlies.j1 kj2 l1 t276 (wrap64 (t279 - 150)) bt280.2.2 bt283.1 bt283.2.1 bt288.1 (bt280.2.2 != 4)))) else (laws_FnPlies.j1 kj2 l1 t276 (wrap64 (t279 - 150)) bt280.2.2 bt283.1 bt283.2.1 bt288.1 true)) else (laws_FnPlies.j1 kj2 l1 t276 (wrap64 (t279 - 150)) bt280.2.2 bt283.1 bt283.2.1 bt288.1 true)) else (laws_FnPlies.j1 kj2 l1 t276 (wrap64 (t279 - 150)) bt280.2.2 bt283.1 bt283.2.1 bt288.1 true)) else (laws_FnPlies.j1 kj2 l1 t276 (wrap64 (t279 - 150)) bt280.2.2 bt283.1 bt283.2.1 bt288.1 true)) else (laws_FnPlies.j1 kj2 l1 t276 (wrap64 (t279 - 150)) bt280.2.2 bt283.1 bt283.2.1 bt288.1 true)))))) = some r := H
  have A9 := Aside0.mk A90
  clear A90
  replace H := Option.bind_eq_some_iff.mp H
  obtain ⟨⟨t280, t281, t282⟩, A100, H⟩ := H
  replace H : ((spec_BalanceTurns.f kj2 t276).bind fun bt283 => ((impl_RestOf.f kj2 t276 (wrap64 (t279 - 150))).bind fun bt286 => ((spec_RestOf.f kj2 t276 (wrap64 (t279 - 150))).bind fun bt288 => (if t282 = bt283.2.2 then (if t280 = bt283.1 then (if t281 = bt283.2.1 then (if bt286.2 = bt288.2 then (if bt286.1 = bt288.1 then (if ((t282 == 0) != (decide ((t276.length : Int) ≥ 2))) = true then (laws_FnPlies.j1 kj2 l1 t276 (wrap64 (t279 - 150)) t282 bt283.1 bt283.2.1 bt288.1 true) else (if t282 = 0 then (laws_FnPlies.j1 kj2 l1 t276 (wrap64 (t279 - 150)) t282 bt283.1 bt283.2.1 bt288.1 false) else (laws_FnPlies.j1 kj2 l1 t276 (wrap64 (t279 - 150)) t282 bt283.1 bt283.2.1 bt288.1 (t282 != 4)))) else (laws_FnPlies.j1 kj2 l1 t276 (wrap64 (t279 - 150)) t282 bt283.1 bt283.2.1 bt288.1 true)) else (laws_FnPlies.j1 kj2 l1 t276 (wrap64 (t279 - 150)) t282 bt283.1 bt283.2.1 bt288.1 true)) else (laws_FnPlies.j1 kj2 l1 t276 (wrap64 (t279 - 150)) t282 bt283.1 bt283.2.1 bt288.1 true)) else (laws_FnPlies.j1 kj2 l1 t276 (wrap64 (t279 - 150)) t282 bt283.1 bt283.2.1 bt288.1 true)) else (laws_FnPlies.j1 kj2 l1 t276 (wrap64 (t279 - 150)) t282 bt283.1 bt283.2.1 bt288.1 true))))) = some r := H
  have A10 := Aside0.mk A100
  clear A100
  replace H := Option.bind_eq_some_iff.mp H
  obtain ⟨⟨t283, t284, t285⟩, A110, H⟩ := H
  replace H : ((impl_RestOf.f kj2 t276 (wrap64 (t279 - 150))).bind fun bt286 => ((spec_RestOf.f kj2 t276 (wrap64 (t279 - 150))).bind fun bt288 => (if t282 = t285 then (if t280 = t283 then (if t281 = t284 then (if bt286.2 = bt288.2 then (if bt286.1 = bt288.1 then (if ((t282 == 0) != (decide ((t276.length : Int) ≥ 2))) = true then (laws_FnPlies.j1 kj2 l1 t276 (wrap64 (t279 - 150)) t282 t283 t284 bt288.1 true) else (if t282 = 0 then (laws_FnPlies.j1 kj2 l1 t276 (wrap64 (t279 - 150)) t282 t283 t284 bt288.1 false) else (laws_FnPlies.j1 kj2 l1 t276 (wrap64 (t279 - 150)) t282 t283 t284 bt288.1 (t282 != 4)))) else (laws_FnPlies.j1 kj2 l1 t276 (wrap64 (t279 - 150)) t282 t283 t284 bt288.1 true)) else (laws_FnPlies.j1 kj2 l1 t276 (wrap64 (t279 - 150)) t282 t283 t284 bt288.1 true)) else (laws_FnPlies.j1 kj2 l1 t276 (wrap64 (t279 - 150)) t282 t283 t284 bt288.1 true)) else (laws_FnPlies.j1 kj2 l1 t276 (wrap64 (t279 - 150)) t282 t283 t284 bt288.1 true)) else (laws_FnPlies.j1 kj2 l1 t276 (wrap64 (t279 - 150)) t282 t283 t284 bt288.1 true)))) = some r := H
  have A11 := Aside0.mk A110
  clear A110
  replace H := Option.bind_eq_some_iff.mp H
  obtain ⟨⟨t286, t287⟩, A120, H⟩ := H
  replace H : ((spec_RestOf.f kj2 t276 (wrap64 (t279 - 150))).bind fun bt288 => (if t282 = t285 then (if t280 = t283 then (if t281 = t284 then (if t287 = bt288.2 then (if t286 = bt288.1 then (if ((t282 == 0) != (decide ((t276.length : Int) ≥ 2))) = true then (laws_FnPlies.j1 kj2 l1 t276 (wrap64 (t279 - 150)) t282 t283 t284 bt288.1 true) else (if t282 = 0 then (laws_FnPlies.j1 kj2 l1 t276 (wrap64 (t279 - 150)) t282 t283 t284 bt288.1 false) else (laws_FnPlies.j1 kj2 l1 t276 (wrap64 (t279 - 150)) t282 t283 t284 bt288.1 (t282 != 4)))) else (laws_FnPlies.j1 kj2 l1 t276 (wrap64 (t279 - 150)) t282 t283 t284 bt288.1 true)) else (laws_FnPlies.j1 kj2 l1 t276 (wrap64 (t279 - 150)) t282 t283 t284 bt288.1 true)) else (laws_FnPlies.j1 kj2 l1 t276 (wrap64 (t279 - 150)) t282 t283 t284 bt288.1 true)) else (laws_FnPlies.j1 kj2 l1 t276 (wrap64 (t279 - 150)) t282 t283 t284 bt288.1 true)) else (laws_FnPlies.j1 kj2 l1 t276 (wrap64 (t279 - 150)) t282 t283 t284 bt288.1 true))) = some r := H
  have A12 := Aside0.mk A120
  clear A120
  replace H := Option.bind_eq_some_iff.mp H
  obtain ⟨⟨t288, t289⟩, A130, H⟩ := H
  replace H : (if t282 = t285 then (if t280 = t283 then (if t281 = t284 then (if t287 = t289 then (if t286 = t288 then (if ((t282 == 0) != (decide ((t276.length : Int) ≥ 2))) = true then (laws_FnPlies.j1 kj2 l1 t276 (wrap64 (t279 - 150)) t282 t283 t284 t288 true) else (if t282 = 0 then (laws_FnPlies.j1 kj2 l1 t276 (wrap64 (t279 - 150)) t282 t283 t284 t288 false) else (laws_FnPlies.j1 kj2 l1 t276 (wrap64 (t279 - 150)) t282 t283 t284 t288 (t282 != 4)))) else (laws_FnPlies.j1 kj2 l1 t276 (wrap64 (t279 - 150)) t282 t283 t284 t288 true)) else (laws_FnPlies.j1 kj2 l1 t276 (wrap64 (t279 - 150)) t282 t283 t284 t288 true)) else (laws_FnPlies.j1 kj2 l1 t276 (wrap64 (t279 - 150)) t282 t283 t284 t288 true)) else (laws_FnPlies.j1 kj2 l1 t276 (wrap64 (t279 - 150)) t282 t283 t284 t288 true)) else (laws_FnPlies.j1 kj2 l1 t276 (wrap64 (t279 - 150)) t282 t283 t284 t288 true)) = some r := H
  have A13 := Aside0.mk A130
  clear A130
  have HC14 := Aside0.mk H
  clear H
  go_upto_region 9 with (first | ((with_reducible refine gate_callee (f := 5) rfl ?_); refine goesL_ (some 77) rfl rfl Try.func5 (by kernel_rfl) rfl #[.slice A0 l0.length c0] rfl zr ?_; (with_reducible refine (spec_P6Yarns.calls kj2 _ _ l0 t276 _ ?side1 ?side2 A8.out).mono ?_); (case side1 => exact zk (Kd.C_below HR0.out HB.out)); (case side2 => exact HC0.out); rintro e w15 ⟨v277, rfl, ho0, hb⟩; refine ⟨_, rfl, ?_⟩; refine up2 (Kd.V_lower (Kd.V_mono (ok' := fun k_ => True) ho0 (fun k_ hk_ => trivial)) (below_size (zb HB.out))) (below_step (zb HB.out) hb) ?_; clear HB; intro HO278 HB; (try clear hb); (try clear hb2); (try clear hk); (try clear hi); (try clear ho0)) | ((with_reducible refine gate_callee (f := 6) rfl ?_); refine goesL_ (some 79) rfl rfl Try.func6 (by kernel_rfl) rfl #[.slice A1 l1.length c1, .int .i64 300] rfl zr ?_; (with_reducible refine (spec_P6Pick.calls _ _ l1 300 t279 _ ?side1 ?side2 A9.out).mono ?_); (case side1 => exact zk (Kd.C_below HR1.out HB.out)); (case side2 => exact HC1.out); rintro e w16 ⟨rfl, hb⟩; refine ⟨_, rfl, ?_⟩; refine up2 (Kd.V_below (zv HO278.out) hb) (below_step (zb HB.out) hb) ?_; clear HO278 HB; intro HO278 HB; (try clear hb); (try clear hb2); (try clear hk); (try clear hi); obtain ⟨Ao17, co17, eo17⟩ := Kd.V_slice HO278.out; subst eo17) | ((with_reducible refine gate_callee (f := 7) rfl ?_); refine goesL_ (some 83) rfl rfl Try.func7 (by kernel_rfl) rfl #[.slice Ao17 t276.length co17] rfl zr ?_; (with_reducible refine (impl_BalanceTurns.calls kj2 _ _ t276 t280 t281 t282 _ ?side1 ?side2 A10.out).mono ?_); (case side1 => exact zk (Kd.V_reads' HO278.out).2.2); (case side2 => exact (Kd.V_reads' HO278.out).2.1); rintro e w18 ⟨rfl, hb⟩; refine ⟨_, rfl, ?_⟩; refine up2 (Kd.V_below (zv HO278.out) hb) (below_step (zb HB.out) hb) ?_; clear HO278 HB; intro HO278 HB; (try clear hb); (try clear hb2); (try clear hk); (try clear hi)) | ((with_reducible refine gate_callee (f := 8) rfl ?_); refine goesL_ (some 89) rfl rfl Try.func8 (by kernel_rfl) rfl #[.slice Ao17 t276.length co17] rfl zr ?_; (with_reducible refine (spec_BalanceTurns.calls kj2 _ _ t276 t283 t284 t285 _ ?side1 ?side2 A11.out).mono ?_); (case side1 => exact zk (Kd.V_reads' HO278.out).2.2); (case side2 => exact (Kd.V_reads' HO278.out).2.1); rintro e w19 ⟨rfl, hb⟩; refine ⟨_, rfl, ?_⟩; refine up2 (Kd.V_below (zv HO278.out) hb) (below_step (zb HB.out) hb) ?_; clear HO278 HB; intro HO278 HB; (try clear hb); (try clear hb2); (try clear hk); (try clear hi)) | ((with_reducible refine gate_callee (f := 9) rfl ?_); refine goesL_ (some 96) rfl rfl Try.func9 (by kernel_rfl) rfl #[.slice Ao17 t276.length co17, .int .i64 (wrap64 (t279 - 150))] rfl zr ?_; (with_reducible refine (impl_RestOf.calls kj2 _ _ t276 (wrap64 (t279 - 150)) t286 t287 _ ?side1 ?side2 A12.out).mono ?_); (case side1 => exact zk (Kd.V_reads' HO278.out).2.2); (case side2 => exact (Kd.V_reads' HO278.out).2.1); rintro e w20 ⟨rfl, hb⟩; refine ⟨_, rfl, ?_⟩; refine up2 (Kd.V_below (zv HO278.out) hb) (below_step (zb HB.out) hb) ?_; clear HO278 HB; intro HO278 HB; (try clear hb); (try clear hb2); (try clear hk); (try clear hi)) | ((with_reducible refine gate_callee (f := 10) rfl ?_); refine goesL_ (some 102) rfl rfl Try.func10 (by kernel_rfl) rfl #[.slice Ao17 t276.length co17, .int .i64 (wrap64 (t279 - 150))] rfl zr ?_; (with_reducible refine (spec_RestOf.calls kj2 _ _ t276 (wrap64 (t279 - 150)) t288 t289 _ ?side1 ?side2 A13.out).mono ?_); (case side1 => exact zk (Kd.V_reads' HO278.out).2.2); (case side2 => exact (Kd.V_reads' HO278.out).2.1); rintro e w21 ⟨rfl, hb⟩; refine ⟨_, rfl, ?_⟩; refine up2 (Kd.V_below (zv HO278.out) hb) (below_step (zb HB.out) hb) ?_; clear HO278 HB; intro HO278 HB; (try clear hb); (try clear hb2); (try clear hk); (try clear hi)))
  (try simp only [Act.put, List.setIfInBounds_toArray, List.set_cons_zero, List.set_cons_succ])
  go_cut [143] from 1000 to 1001 (fun v143 wc => ∃ (kq : Nat) (x143_13 : Bool), v143 = .bool x143_13 ∧ Aside0 (laws_FnPlies.j1 kq l1 t276 (wrap64 (t279 - 150)) t282 t283 t284 t288 x143_13 = some r) ∧ Aside0 (kq ≤ kj2) ∧ Aside0 (Kd.V k33 33 wc w.heap.size (fun _ => True) (.slice Ao17 t276.length co17) t276) ∧ Aside0 (Below w.heap.size w wc))
  case first =>
   have H := HC14.out
   clear HC14
   by_cases c22 : t282 = t285
   rotate_left
   · rw [if_neg c22] at H
     have c22b0 : (t282 == t285) = false := beq_eq_false_iff_ne.mpr c22
     have c22b1 : (t282 != t285) = true := bne_iff_ne.mpr c22
     (first | rw [c22b0] | (simp only [i64_w, i32_w]; rw [c22b0]) | skip)
     have H' := Aside0.mk H
     clear H
     go_wp2
     go_meet
     case rel => exact ⟨_, (true), zx, H', ⟨by have := HJ2.out; first | omega | exact Nat.le_refl _⟩, ⟨zv HO278.out⟩, ⟨zb HB.out⟩⟩
   rw [if_pos c22] at H
   have c22b0 : (t282 == t285) = true := beq_iff_eq.mpr c22
   have c22b1 : (t282 != t285) = false := bne_eq_false_iff_eq.mpr c22
   clear c22
   (first | rw [c22b0] | (simp only [i64_w, i32_w]; rw [c22b0]) | skip)
   by_cases c23 : t280 = t283
   rotate_left
   · rw [if_neg c23] at H
     have c23b0 : (t280 == t283) = false := beq_eq_false_iff_ne.mpr c23
     have c23b1 : (t280 != t283) = true := bne_iff_ne.mpr c23
     have H' := Aside0.mk H
     clear H
     go_wp2
     go_meet
     case rel => exact ⟨_, (true), zx, H', ⟨by have := HJ2.out; first | omega | exact Nat.le_refl _⟩, ⟨zv HO278.out⟩, ⟨zb HB.out⟩⟩
   rw [if_pos c23] at H
   have c23b0 : (t280 == t283) = true := beq_iff_eq.mpr c23
   have c23b1 : (t280 != t283) = false := bne_eq_false_iff_eq.mpr c23
   clear c23
   by_cases c24 : t281 = t284
   rotate_left
   · rw [if_neg c24] at H
     have c24b0 : (t281 == t284) = false := beq_eq_false_iff_ne.mpr c24
     have c24b1 : (t281 != t284) = true := bne_iff_ne.mpr c24
     have H' := Aside0.mk H
     clear H
     go_wp2
     go_meet
     case rel => exact ⟨_, (true), zx, H', ⟨by have := HJ2.out; first | omega | exact Nat.le_refl _⟩, ⟨zv HO278.out⟩, ⟨zb HB.out⟩⟩
   rw [if_pos c24] at H
   have c24b0 : (t281 == t284) = true := beq_iff_eq.mpr c24
   have c24b1 : (t281 != t284) = false := bne_eq_false_iff_eq.mpr c24
   clear c24
   by_cases c25 : t287 = t289
   rotate_left
   · rw [if_neg c25] at H
     have c25b0 : (t287 == t289) = false := beq_eq_false_iff_ne.mpr c25
     have c25b1 : (t287 != t289) = true := bne_iff_ne.mpr c25
     have H' := Aside0.mk H
     clear H
     go_wp2
     go_meet
     case rel => exact ⟨_, (true), zx, H', ⟨by have := HJ2.out; first | omega | exact Nat.le_refl _⟩, ⟨zv HO278.out⟩, ⟨zb HB.out⟩⟩
   rw [if_pos c25] at H
   have c25b0 : (t287 == t289) = true := beq_iff_eq.mpr c25
   have c25b1 : (t287 != t289) = false := bne_eq_false_iff_eq.mpr c25
   clear c25
   by_cases c26 : t286 = t288
   rotate_left
   · rw [if_neg c26] at H
     have c26b0 : (t286 == t288) = false := beq_eq_false_iff_ne.mpr c26
     have c26b1 : (t286 != t288) = true := bne_iff_ne.mpr c26
     have H' := Aside0.mk H
     clear H
     go_wp2
     go_meet
     case rel => exact ⟨_, (true), zx, H', ⟨by have := HJ2.out; first | omega | exact Nat.le_refl _⟩, ⟨zv HO278.out⟩, ⟨zb HB.out⟩⟩
   rw [if_pos c26] at H
   have c26b0 : (t286 == t288) = true := beq_iff_eq.mpr c26
   have c26b1 : (t286 != t288) = false := bne_eq_false_iff_eq.mpr c26
   clear c26
   by_cases c27 : ((t282 == 0) != (decide ((t276.length : Int) ≥ 2))) = true
   · rw [if_pos c27] at H
     have c27b0 : ((t282 == 0) != (decide ((t276.length : Int) ≥ 2))) = true := c27
     (try (have c27b1 : decide ((t282 == 0) = (decide ((t276.length : Int) ≥ 2))) = false := by simpa using c27))
     (try (have c27b2 : ((t282 == 0) == (decide ((t276.length : Int) ≥ 2))) = false := by simpa using c27))
     (try (have c27b3 : ¬ ((t282 == 0) = (decide ((t276.length : Int) ≥ 2))) := by simpa using c27))
     clear c27
     have H' := Aside0.mk H
     clear H
     go_wp2
     go_meet
     case rel => exact ⟨_, (true), zx, H', ⟨by have := HJ2.out; first | omega | exact Nat.le_refl _⟩, ⟨zv HO278.out⟩, ⟨zb HB.out⟩⟩
   rw [if_neg c27] at H
   have c27b0 : ((t282 == 0) != (decide ((t276.length : Int) ≥ 2))) = false := by simpa using c27
   (try (have c27b1 : decide ((t282 == 0) = (decide ((t276.length : Int) ≥ 2))) = true := by simpa using c27))
   (try (have c27b2 : ((t282 == 0) == (decide ((t276.length : Int) ≥ 2))) = true := by simpa using c27))
   clear c27
   by_cases c28 : t282 = 0
   rotate_left
   · rw [if_neg c28] at H
     have c28b0 : (t282 == 0) = false := beq_eq_false_iff_ne.mpr c28
     (try (have c28x0 : decide ((t276.length : Int) ≥ 2) = false := by have z_ := c27b0; rw [c28b0] at z_; simpa using z_))
     (try (have c28x1 : decide (2 ≤ (t276.length : Int)) = false := by have z_ := c27b0; rw [c28b0] at z_; simpa using z_))
     have c28b1 : (t282 != 0) = true := bne_iff_ne.mpr c28
     have H' := Aside0.mk H
     clear H
     go_wp2
     go_meet
     case rel => exact ⟨_, ((t282 != 4)), zx, H', ⟨by have := HJ2.out; first | omega | exact Nat.le_refl _⟩, ⟨zv HO278.out⟩, ⟨zb HB.out⟩⟩
   rw [if_pos c28] at H
   have c28b0 : (t282 == 0) = true := beq_iff_eq.mpr c28
   (try (have c28x0 : decide ((t276.length : Int) ≥ 2) = true := by have z_ := c27b0; rw [c28b0] at z_; simpa using z_))
   (try (have c28x1 : decide (2 ≤ (t276.length : Int)) = true := by have z_ := c27b0; rw [c28b0] at z_; simpa using z_))
   have c28b1 : (t282 != 0) = false := bne_eq_false_iff_eq.mpr c28
   clear c28
   have H' := Aside0.mk H
   clear H
   go_wp2
   go_meet
   case rel => exact ⟨_, (false), zx, H', ⟨by have := HJ2.out; first | omega | exact Nat.le_refl _⟩, ⟨zv HO278.out⟩, ⟨zb HB.out⟩⟩
  case rest =>
  clear HC14
  try clear c1
  try clear c7
  obtain ⟨kq, x143_13, rfl, HA, HJ13, HO_5, HB⟩ := hcut
  cases kq with
  | zero => exact absurd HA.out (by simp [laws_FnPlies.j1])
  | succ kj13 =>
   have H := HA.out
   clear HA
   simp only [laws_FnPlies.j1] at H
   by_cases c29 : x143_13 = true
   · subst c29
     have H1 : (none) = some r := by rw [if_pos rfl] at H; exact H
     clear H
     have H := H1
     clear H1
     exact absurd H (by simp)
   replace c29 := Bool.eq_false_iff.mpr c29
   subst c29
   have H1 : (if t282 = 0 then ((impl_RestOf.f kj13 t276 t283).bind fun bt290 => (if bt290.2 = 0 then (if bt290.1 = t284 then (laws_FnPlies.j2 kj13 l1 t276 (wrap64 (t279 - 150)) (decide (t288 < t284))) else (laws_FnPlies.j2 kj13 l1 t276 (wrap64 (t279 - 150)) true)) else (laws_FnPlies.j2 kj13 l1 t276 (wrap64 (t279 - 150)) true))) else (laws_FnPlies.j3 kj13 l1 t276)) = some r := by rw [if_neg (show ¬ (false = true) by decide)] at H; exact H
   clear H
   have H := H1
   clear H1
   have HC30 := Aside0.mk H
   clear H
   go_upto_if 145 with (fail)
   go_cut [] from 105 to 145 (fun wc => ∃ (kq : Nat), Aside0 (laws_FnPlies.j3 kq l1 t276 = some r) ∧ Aside0 (kq ≤ kj13) ∧ Aside0 (Kd.V k33 33 wc w.heap.size (fun _ => True) (.slice Ao17 t276.length co17) t276) ∧ Aside0 (Below w.heap.size w wc))
   case first =>
    have H := HC30.out
    clear HC30
    by_cases c31 : t282 = 0
    rotate_left
    · rw [if_neg c31] at H
      have c31b0 : (t282 == 0) = false := beq_eq_false_iff_ne.mpr c31
      have c31b1 : (t282 != 0) = true := bne_iff_ne.mpr c31
      (first | rw [c31b0] | (simp only [i64_w, i32_w]; rw [c31b0]) | skip)
      have H' := Aside0.mk H
      clear H
      go_wp2
      go_meet
      case rel => exact ⟨_, H', ⟨by have := HJ2.out; have := HJ13.out; first | omega | exact Nat.le_refl _⟩, ⟨zv HO_5.out⟩, ⟨zb HB.out⟩⟩
    rw [if_pos c31] at H
    have c31b0 : (t282 == 0) = true := beq_iff_eq.mpr c31
    have c31b1 : (t282 != 0) = false := bne_eq_false_iff_eq.mpr c31
    clear c31
    (first | rw [c31b0] | (simp only [i64_w, i32_w]; rw [c31b0]) | skip)
    replace H := Option.bind_eq_some_iff.mp H
    obtain ⟨⟨t290, t291⟩, A320, H⟩ := H
    replace H : (if t291 = 0 then (if t290 = t284 then (laws_FnPlies.j2 kj13 l1 t276 (wrap64 (t279 - 150)) (decide (t288 < t284))) else (laws_FnPlies.j2 kj13 l1 t276 (wrap64 (t279 - 150)) true)) else (laws_FnPlies.j2 kj13 l1 t276 (wrap64 (t279 - 150)) true)) = some r := H
    have A32 := Aside0.mk A320
    clear A320
    have HC33 := Aside0.mk H
    clear H
    go_upto_region 13 with (first | ((with_reducible refine gate_callee (f := 9) rfl ?_); refine goesL_ (some 149) rfl rfl Try.func9 (by kernel_rfl) rfl #[.slice Ao17 t276.length co17, .int .i64 t283] rfl zr ?_; (with_reducible refine (impl_RestOf.calls kj13 _ _ t276 t283 t290 t291 _ ?side1 ?side2 A32.out).mono ?_); (case side1 => exact zk (Kd.V_reads' HO_5.out).2.2); (case side2 => exact (Kd.V_reads' HO_5.out).2.1); rintro e w34 ⟨rfl, hb⟩; refine ⟨_, rfl, ?_⟩; refine up2 (Kd.V_below (zv HO_5.out) hb) (below_step (zb HB.out) hb) ?_; clear HO_5 HB; intro HO_5 HB; (try clear hb); (try clear hb2); (try clear hk); (try clear hi)))
    (try simp only [Act.put, List.setIfInBounds_toArray, List.set_cons_zero, List.set_cons_succ])
    go_cut [163] from 146 to 151 (fun v163 wc => ∃ (kq : Nat) (x163_32 : Bool), v163 = .bool x163_32 ∧ Aside0 (laws_FnPlies.j2 kq l1 t276 (wrap64 (t279 - 150)) x163_32 = some r) ∧ Aside0 (kq ≤ kj13) ∧ Aside0 (Kd.V k33 33 wc w.heap.size (fun _ => True) (.slice Ao17 t276.length co17) t276) ∧ Aside0 (Below w.heap.size w wc))
    case first =>
     have H := HC33.out
     clear HC33
     by_cases c35 : t291 = 0
     rotate_left
     · rw [if_neg c35] at H
       have c35b0 : (t291 == 0) = false := beq_eq_false_iff_ne.mpr c35
       have c35b1 : (t291 != 0) = true := bne_iff_ne.mpr c35
       (first | rw [c35b0] | (simp only [i64_w, i32_w]; rw [c35b0]) | skip)
       have H' := Aside0.mk H
       clear H
       go_wp2
       go_meet
       case rel => exact ⟨_, (true), zx, H', ⟨by have := HJ2.out; have := HJ13.out; first | omega | exact Nat.le_refl _⟩, ⟨zv HO_5.out⟩, ⟨zb HB.out⟩⟩
     rw [if_pos c35] at H
     have c35b0 : (t291 == 0) = true := beq_iff_eq.mpr c35
     have c35b1 : (t291 != 0) = false := bne_eq_false_iff_eq.mpr c35
     clear c35
     (first | rw [c35b0] | (simp only [i64_w, i32_w]; rw [c35b0]) | skip)
     by_cases c36 : t290 = t284
     rotate_left
     · rw [if_neg c36] at H
       have c36b0 : (t290 == t284) = false := beq_eq_false_iff_ne.mpr c36
       have c36b1 : (t290 != t284) = true := bne_iff_ne.mpr c36
       have H' := Aside0.mk H
       clear H
       go_wp2
       go_meet
       case rel => exact ⟨_, (true), zx, H', ⟨by have := HJ2.out; have := HJ13.out; first | omega | exact Nat.le_refl _⟩, ⟨zv HO_5.out⟩, ⟨zb HB.out⟩⟩
     rw [if_pos c36] at H
     have c36b0 : (t290 == t284) = true := beq_iff_eq.mpr c36
     have c36b1 : (t290 != t284) = false := bne_eq_false_iff_eq.mpr c36
     clear c36
     have H' := Aside0.mk H
     clear H
     go_wp2
     go_meet
     case rel => exact ⟨_, (decide (t288 < t284)), zx, H', ⟨by have := HJ2.out; have := HJ13.out; first | omega | exact Nat.le_refl _⟩, ⟨zv HO_5.out⟩, ⟨zb HB.out⟩⟩
    case rest =>
    clear HC33
    try clear c29
    try clear c31b0
    try clear c31b1
    obtain ⟨kq, x163_32, rfl, HA, HJ32, HO_5, HB⟩ := hcut
    cases kq with
    | zero => exact absurd HA.out (by simp [laws_FnPlies.j2])
    | succ kj32 =>
     have H := HA.out
     clear HA
     simp only [laws_FnPlies.j2] at H
     by_cases c37 : x163_32 = true
     · subst c37
       have H1 : (none) = some r := by rw [if_pos rfl] at H; exact H
       clear H
       have H := H1
       clear H1
       exact absurd H (by simp)
     replace c37 := Bool.eq_false_iff.mpr c37
     subst c37
     have H1 : ((impl_PlyLong.f kj32 t276 (wrap64 (t279 - 150))).bind fun bt292 => ((spec_PlyLong.f kj32 t276 (wrap64 (t279 - 150))).bind fun bt294 => ((impl_PlyYarns.f kj32 t276 (wrap64 (t279 - 150))).bind fun bt296 => ((spec_PlyYarns.f kj32 t276 (wrap64 (t279 - 150))).bind fun bt301 => (if bt292.2 = bt294.2 then (if bt292.1 = bt294.1 then (if bt296.2.2.2 = bt301.2.2.2 then (if (!(bt296.1 == bt301.1) || (!(bt296.2.1 == bt301.2.1) || (!(bt296.2.2.1 == bt301.2.2.1)))) = true then (none) else (if bt292.2 = 0 then (if bt296.2.2.2 = 0 then (if (wrap64 (bt301.1)) = bt294.1 then (if (wrap64 (bt301.2.1)) = (wrap64 (t279 - 150)) then (laws_FnPlies.j3 kj32 l1 t276) else (none)) else (none)) else (laws_FnPlies.j3 kj32 l1 t276)) else (if bt296.2.2.2 = bt292.2 then (laws_FnPlies.j3 kj32 l1 t276) else (none)))) else (none)) else (none)) else (none)))))) = some r := by rw [if_neg (show ¬ (false = true) by decide)] at H; exact H
     clear H
     have H := H1
     clear H1
     replace H := Option.bind_eq_some_iff.mp H
     obtain ⟨⟨t292, t293⟩, A380, H⟩ := H
     replace H : ((spec_PlyLong.f kj32 t276 (wrap64 (t279 - 150))).bind fun bt294 => ((impl_PlyYarns.f kj32 t276 (wrap64 (t279 - 150))).bind fun bt296 => ((spec_PlyYarns.f kj32 t276 (wrap64 (t279 - 150))).bind fun bt301 => (if t293 = bt294.2 then (if t292 = bt294.1 then (if bt296.2.2.2 = bt301.2.2.2 then (if (!(bt296.1 == bt301.1) || (!(bt296.2.1 == bt301.2.1) || (!(bt296.2.2.1 == bt301.2.2.1)))) = true then (none) else (if t293 = 0 then (if bt296.2.2.2 = 0 then (if (wrap64 (bt301.1)) = bt294.1 then (if (wrap64 (bt301.2.1)) = (wrap64 (t279 - 150)) then (laws_FnPlies.j3 kj32 l1 t276) else (none)) else (none)) else (laws_FnPlies.j3 kj32 l1 t276)) else (if bt296.2.2.2 = t293 then (laws_FnPlies.j3 kj32 l1 t276) else (none)))) else (none)) else (none)) else (none))))) = some r := H
     have A38 := Aside0.mk A380
     clear A380
     replace H := Option.bind_eq_some_iff.mp H
     obtain ⟨⟨t294, t295⟩, A390, H⟩ := H
     replace H : ((impl_PlyYarns.f kj32 t276 (wrap64 (t279 - 150))).bind fun bt296 => ((spec_PlyYarns.f kj32 t276 (wrap64 (t279 - 150))).bind fun bt301 => (if t293 = t295 then (if t292 = t294 then (if bt296.2.2.2 = bt301.2.2.2 then (if (!(bt296.1 == bt301.1) || (!(bt296.2.1 == bt301.2.1) || (!(bt296.2.2.1 == bt301.2.2.1)))) = true then (none) else (if t293 = 0 then (if bt296.2.2.2 = 0 then (if (wrap64 (bt301.1)) = t294 then (if (wrap64 (bt301.2.1)) = (wrap64 (t279 - 150)) then (laws_FnPlies.j3 kj32 l1 t276) else (none)) else (none)) else (laws_FnPlies.j3 kj32 l1 t276)) else (if bt296.2.2.2 = t293 then (laws_FnPlies.j3 kj32 l1 t276) else (none)))) else (none)) else (none)) else (none)))) = some r := H
     have A39 := Aside0.mk A390
     clear A390
     replace H := Option.bind_eq_some_iff.mp H
     obtain ⟨⟨t296, t297, t298, t299⟩, A400, H⟩ := H
     replace H : ((spec_PlyYarns.f kj32 t276 (wrap64 (t279 - 150))).bind fun bt301 => (if t293 = t295 then (if t292 = t294 then (if t299 = bt301.2.2.2 then (if (!(t296 == bt301.1) || (!(t297 == bt301.2.1) || (!(t298 == bt301.2.2.1)))) = true then (none) else (if t293 = 0 then (if t299 = 0 then (if (wrap64 (bt301.1)) = t294 then (if (wrap64 (bt301.2.1)) = (wrap64 (t279 - 150)) then (laws_FnPlies.j3 kj32 l1 t276) else (none)) else (none)) else (laws_FnPlies.j3 kj32 l1 t276)) else (if t299 = t293 then (laws_FnPlies.j3 kj32 l1 t276) else (none)))) else (none)) else (none)) else (none))) = some r := H
     have A40 := Aside0.mk A400
     clear A400
     replace H := Option.bind_eq_some_iff.mp H
     obtain ⟨⟨t301, t302, t303, t304⟩, A410, H⟩ := H
     replace H : (if t293 = t295 then (if t292 = t294 then (if t299 = t304 then (if (!(t296 == t301) || (!(t297 == t302) || (!(t298 == t303)))) = true then (none) else (if t293 = 0 then (if t299 = 0 then (if (wrap64 (t301)) = t294 then (if (wrap64 (t302)) = (wrap64 (t279 - 150)) then (laws_FnPlies.j3 kj32 l1 t276) else (none)) else (none)) else (laws_FnPlies.j3 kj32 l1 t276)) else (if t299 = t293 then (laws_FnPlies.j3 kj32 l1 t276) else (none)))) else (none)) else (none)) else (none)) = some r := H
     have A41 := Aside0.mk A410
     clear A410
     by_cases c42 : t293 = t295
     rotate_left
     · rw [if_neg c42] at H
       exact absurd H (by simp)
     rw [if_pos c42] at H
     have c42b0 : (t293 == t295) = true := beq_iff_eq.mpr c42
     have c42b1 : (t293 != t295) = false := bne_eq_false_iff_eq.mpr c42
     clear c42
     by_cases c43 : t292 = t294
     rotate_left
     · rw [if_neg c43] at H
       exact absurd H (by simp)
     rw [if_pos c43] at H
     have c43b0 : (t292 == t294) = true := beq_iff_eq.mpr c43
     have c43b1 : (t292 != t294) = false := bne_eq_false_iff_eq.mpr c43
     clear c43
     by_cases c44 : t299 = t304
     rotate_left
     · rw [if_neg c44] at H
       exact absurd H (by simp)
     rw [if_pos c44] at H
     have c44b0 : (t299 == t304) = true := beq_iff_eq.mpr c44
     have c44b1 : (t299 != t304) = false := bne_eq_false_iff_eq.mpr c44
     clear c44
     by_cases c45 : (!(t296 == t301) || (!(t297 == t302) || (!(t298 == t303)))) = true
     · rw [if_pos c45] at H
       exact absurd H (by simp)
     rw [if_neg c45] at H
     have c45b0 : (!(t296 == t301) || (!(t297 == t302) || (!(t298 == t303)))) = false := by simpa using c45
     clear c45
     by_cases c46 : t293 = 0
     rotate_left
     · rw [if_neg c46] at H
       have c46b0 : (t293 == 0) = false := beq_eq_false_iff_ne.mpr c46
       have c46b1 : (t293 != 0) = true := bne_iff_ne.mpr c46
       by_cases c70 : t299 = t293
       rotate_left
       · rw [if_neg c70] at H
         exact absurd H (by simp)
       rw [if_pos c70] at H
       have c70b0 : (t299 == t293) = true := beq_iff_eq.mpr c70
       have c70b1 : (t299 != t293) = false := bne_eq_false_iff_eq.mpr c70
       clear c70
       have H' := Aside0.mk H
       clear H
       go_wp2_with (first | ((with_reducible refine gate_callee (f := 11) rfl ?_); refine goesL_ (some 167) rfl rfl Try.func11 (by kernel_rfl) rfl #[.slice Ao17 t276.length co17, .int .i64 (wrap64 (t279 - 150))] rfl zr ?_; (with_reducible refine (impl_PlyLong.calls kj32 _ _ t276 (wrap64 (t279 - 150)) t292 t293 _ ?side1 ?side2 A38.out).mono ?_); (case side1 => exact zk (Kd.V_reads' HO_5.out).2.2); (case side2 => exact (Kd.V_reads' HO_5.out).2.1); rintro e w71 ⟨rfl, hb⟩; refine ⟨_, rfl, ?_⟩; refine up2 (Kd.V_below (zv HO_5.out) hb) (below_step (zb HB.out) hb) ?_; clear HO_5 HB; intro HO_5 HB; (try clear hb); (try clear hb2); (try clear hk); (try clear hi)) | ((with_reducible refine gate_callee (f := 12) rfl ?_); refine goesL_ (some 173) rfl rfl Try.func12 (by kernel_rfl) rfl #[.slice Ao17 t276.length co17, .int .i64 (wrap64 (t279 - 150))] rfl zr ?_; (with_reducible refine (spec_PlyLong.calls kj32 _ _ t276 (wrap64 (t279 - 150)) t294 t295 _ ?side1 ?side2 A39.out).mono ?_); (case side1 => exact zk (Kd.V_reads' HO_5.out).2.2); (case side2 => exact (Kd.V_reads' HO_5.out).2.1); rintro e w72 ⟨rfl, hb⟩; refine ⟨_, rfl, ?_⟩; refine up2 (Kd.V_below (zv HO_5.out) hb) (below_step (zb HB.out) hb) ?_; clear HO_5 HB; intro HO_5 HB; (try clear hb); (try clear hb2); (try clear hk); (try clear hi)) | ((with_reducible refine gate_callee (f := 13) rfl ?_); refine goesL_ (some 179) rfl rfl Try.func13 (by kernel_rfl) rfl #[.slice Ao17 t276.length co17, .int .i64 (wrap64 (t279 - 150))] rfl zr ?_; (with_reducible refine (impl_PlyYarns.calls kj32 _ _ t276 (wrap64 (t279 - 150)) t296 t297 t298 t299 _ ?side1 ?side2 A40.out).mono ?_); (case side1 => exact zk (Kd.V_reads' HO_5.out).2.2); (case side2 => exact (Kd.V_reads' HO_5.out).2.1); rintro e w73 ⟨rfl, hb⟩; refine ⟨_, rfl, ?_⟩; refine up2 (Kd.V_below (zv HO_5.out) hb) (below_step (zb HB.out) hb) ?_; clear HO_5 HB; intro HO_5 HB; (try clear hb); (try clear hb2); (try clear hk); (try clear hi)) | ((with_reducible refine gate_dst (N := 23) rfl ?_); (try (refine gate_guard (by rfl) ?_; dsimp only)); refine box_event ?hg (N := 23) ?hd (cs := #[.int .i16 0, .int .i16 0, .int .i16 0]) (t := 33) ?hr ?_; (case hd => rfl); (case hg => rfl); (case hr => first | (go_simp; done) | (go_simp; rfl)); intro gb300 hg w74 hbox hb; refine up5 (Kd.V_below (Kd.V_elderB (zv HO_5.out) gb300 (Nat.le_of_eq hg.symm)) hb) (below_step (zb HB.out) hb) (hbox) ((by rw [hg]; exact (below_size (zb HB.out)) : w.heap.size ≤ gb300)) ((by rw [hg]; exact (below_size (zb HB.out)) : w.heap.size ≤ gb300)) ?_; clear HO_5 HB; intro HO_5 HB BK300 GW300 GE300; clear hb hbox hg; have hcz75_0 : w74.cell? ⟨gb300, 0, none⟩ = some (.int .i16 0) := (blk_cell BK300.out 0).trans rfl; have hcz75_1 : w74.cell? ⟨gb300, 1, none⟩ = some (.int .i16 0) := (blk_cell BK300.out 1).trans rfl; have hcz75_2 : w74.cell? ⟨gb300, 2, none⟩ = some (.int .i16 0) := (blk_cell BK300.out 2).trans rfl; have hfz75_0 := blk_frozen BK300.out 0; have hfz75_1 := blk_frozen BK300.out 1; have hfz75_2 := blk_frozen BK300.out 2) | ((with_reducible refine gate_callee (f := 14) rfl ?_); refine goesL_ (some 185) rfl rfl Try.func14 (by kernel_rfl) rfl #[.slice Ao17 t276.length co17, .int .i64 (wrap64 (t279 - 150))] rfl zr ?_; (with_reducible refine (spec_PlyYarns.calls kj32 _ _ t276 (wrap64 (t279 - 150)) t301 t302 t303 t304 _ ?side1 ?side2 A41.out).mono ?_); (case side1 => refine (Kd.V_reads' (e := 33) (base := w.heap.size) (ok := fun k_ => (True ∧ k_ ≠ gb300)) (n := t276.length) (c := co17) ?_).2.2; exact (by (with_reducible repeat (first | apply Kd.V_alloc | apply Kd.V_drewN | apply Kd.V_drew)); exact (Kd.V_mono (Kd.V_far (p := ⟨gb300, 2, none⟩) (Kd.V_far (p := ⟨gb300, 1, none⟩) (Kd.V_far (p := ⟨gb300, 0, none⟩) (Kd.V_mono HO_5.out (fun k_ hk => (⟨hk, hk.2⟩ : _ ∧ k_ ≠ gb300))) (fun _ hk => hk.2) (.int .i16 t296)) (fun _ hk => hk.2) (.int .i16 t297)) (fun _ hk => hk.2) (.int .i16 t298)) (fun _ h_ => h_.1)))); (case side2 => exact (Kd.V_reads' HO_5.out).2.1); rintro e w76 ⟨rfl, hb⟩; refine ⟨_, rfl, ?_⟩; refine up3 (Kd.V_below (by (with_reducible repeat (first | apply Kd.V_alloc | apply Kd.V_drewN | apply Kd.V_drew)); exact (Kd.V_mono (Kd.V_far (p := ⟨gb300, 2, none⟩) (Kd.V_far (p := ⟨gb300, 1, none⟩) (Kd.V_far (p := ⟨gb300, 0, none⟩) (Kd.V_mono HO_5.out (fun k_ hk => (⟨hk, hk.2⟩ : _ ∧ k_ ≠ gb300))) (fun _ hk => hk.2) (.int .i16 t296)) (fun _ hk => hk.2) (.int .i16 t297)) (fun _ hk => hk.2) (.int .i16 t298)) (fun _ h_ => h_.1))) hb) (blk_below (g := gb300) (o := .cells #[.int .i16 t296, .int .i16 t297, .int .i16 t298] 33 (0, 0)) (by (with_reducible repeat (first | refine blk_drewN ?_ _ | refine blk_drew ?_ | refine blk_alloc ?_ _)); refine blk_put (cs := #[.int .i16 t296, .int .i16 t297, .int .i16 0]) ?_ 2 _ rfl; (with_reducible repeat (first | refine blk_drewN ?_ _ | refine blk_drew ?_ | refine blk_alloc ?_ _)); refine blk_put (cs := #[.int .i16 t296, .int .i16 0, .int .i16 0]) ?_ 1 _ rfl; (with_reducible repeat (first | refine blk_drewN ?_ _ | refine blk_drew ?_ | refine blk_alloc ?_ _)); refine blk_put (cs := #[.int .i16 0, .int .i16 0, .int .i16 0]) ?_ 0 _ rfl; (with_reducible repeat (first | refine blk_drewN ?_ _ | refine blk_drew ?_ | refine blk_alloc ?_ _)); exact BK300.out) hb) (below_step (zb1 HB.out GE300.out) hb) ?_; clear HO_5 BK300 HB; intro HO_5 BK300 HB; (try clear hb); (try clear hb2); (try clear hk); (try clear hi)) | ((with_reducible refine gate_dst (N := 25) rfl ?_); (try (refine gate_guard (by rfl) ?_; dsimp only)); refine box_event ?hg (N := 25) ?hd (cs := #[.int .i16 0, .int .i16 0, .int .i16 0]) (t := 33) ?hr ?_; (case hd => rfl); (case hg => rfl); (case hr => first | (go_simp; done) | (go_simp; rfl)); intro gb305 hg w77 hbox hb; refine up8 (Kd.V_below (Kd.V_elderB (zv HO_5.out) gb305 (Nat.le_of_eq hg.symm)) hb) (blk_below (g := gb300) (o := .cells #[.int .i16 t296, .int .i16 t297, .int .i16 t298] 33 (0, 0)) (zq BK300.out) hb) (below_step (zb1 HB.out GE300.out) hb) (hbox) ((by rw [hg]; exact (below_size (zb1 HB.out GE300.out)) : w.heap.size ≤ gb305)) ((by rw [hg]; exact (below_size (zb1 HB.out GE300.out)) : w.heap.size ≤ gb305)) ((by rw [hg]; exact Nat.ne_of_lt (blk_lt (g := gb300) (o := .cells #[.int .i16 t296, .int .i16 t297, .int .i16 t298] 33 (0, 0)) (zq BK300.out)) : gb300 ≠ gb305)) ((by rw [hg]; exact Nat.ne_of_gt (blk_lt (g := gb300) (o := .cells #[.int .i16 t296, .int .i16 t297, .int .i16 t298] 33 (0, 0)) (zq BK300.out)) : gb305 ≠ gb300)) ?_; clear HO_5 BK300 HB; intro HO_5 BK300 HB BK305 GW305 GE305 NB300_305 NB305_300; clear hb hbox hg; have hnb78 := NB305_300.out; have hnc78 := NB300_305.out; have hcz79_0 : w77.cell? ⟨gb305, 0, none⟩ = some (.int .i16 0) := (blk_cell BK305.out 0).trans rfl; have hcz79_1 : w77.cell? ⟨gb305, 1, none⟩ = some (.int .i16 0) := (blk_cell BK305.out 1).trans rfl; have hcz79_2 : w77.cell? ⟨gb305, 2, none⟩ = some (.int .i16 0) := (blk_cell BK305.out 2).trans rfl; have hfz79_0 := blk_frozen BK305.out 0; have hfz79_1 := blk_frozen BK305.out 1; have hfz79_2 := blk_frozen BK305.out 2; have hcz80_0 : w77.cell? ⟨gb300, 0, none⟩ = some (.int .i16 t296) := (blk_cell BK300.out 0).trans rfl; have hcz80_1 : w77.cell? ⟨gb300, 1, none⟩ = some (.int .i16 t297) := (blk_cell BK300.out 1).trans rfl; have hcz80_2 : w77.cell? ⟨gb300, 2, none⟩ = some (.int .i16 t298) := (blk_cell BK300.out 2).trans rfl; have hfz80_0 := blk_frozen BK300.out 0; have hfz80_1 := blk_frozen BK300.out 1; have hfz80_2 := blk_frozen BK300.out 2))
       go_meet
       case rel => exact ⟨_, H', ⟨by have := HJ2.out; have := HJ13.out; have := HJ32.out; first | omega | exact Nat.le_refl _⟩, ⟨by (with_reducible repeat (first | apply Kd.V_alloc | apply Kd.V_drewN | apply Kd.V_drew)); exact Kd.V_mono (Kd.V_far (p := ⟨gb305, 2, none⟩) (Kd.V_far (p := ⟨gb305, 1, none⟩) (Kd.V_far (p := ⟨gb305, 0, none⟩) (Kd.V_mono HO_5.out (fun k_ hk => (⟨hk, hk.2⟩ : _ ∧ k_ ≠ gb305))) (fun _ hk => hk.2) (.int .i16 t301)) (fun _ hk => hk.2) (.int .i16 t302)) (fun _ hk => hk.2) (.int .i16 t303)) (fun _ hk => trivial)⟩, ⟨zb2 HB.out GE300.out GE305.out⟩⟩
     rw [if_pos c46] at H
     have c46b0 : (t293 == 0) = true := beq_iff_eq.mpr c46
     have c46b1 : (t293 != 0) = false := bne_eq_false_iff_eq.mpr c46
     clear c46
     by_cases c47 : t299 = 0
     rotate_left
     · rw [if_neg c47] at H
       have c47b0 : (t299 == 0) = false := beq_eq_false_iff_ne.mpr c47
       have c47b1 : (t299 != 0) = true := bne_iff_ne.mpr c47
       have H' := Aside0.mk H
       clear H
       go_wp2_with (first | ((with_reducible refine gate_callee (f := 11) rfl ?_); refine goesL_ (some 167) rfl rfl Try.func11 (by kernel_rfl) rfl #[.slice Ao17 t276.length co17, .int .i64 (wrap64 (t279 - 150))] rfl zr ?_; (with_reducible refine (impl_PlyLong.calls kj32 _ _ t276 (wrap64 (t279 - 150)) t292 t293 _ ?side1 ?side2 A38.out).mono ?_); (case side1 => exact zk (Kd.V_reads' HO_5.out).2.2); (case side2 => exact (Kd.V_reads' HO_5.out).2.1); rintro e w60 ⟨rfl, hb⟩; refine ⟨_, rfl, ?_⟩; refine up2 (Kd.V_below (zv HO_5.out) hb) (below_step (zb HB.out) hb) ?_; clear HO_5 HB; intro HO_5 HB; (try clear hb); (try clear hb2); (try clear hk); (try clear hi)) | ((with_reducible refine gate_callee (f := 12) rfl ?_); refine goesL_ (some 173) rfl rfl Try.func12 (by kernel_rfl) rfl #[.slice Ao17 t276.length co17, .int .i64 (wrap64 (t279 - 150))] rfl zr ?_; (with_reducible refine (spec_PlyLong.calls kj32 _ _ t276 (wrap64 (t279 - 150)) t294 t295 _ ?side1 ?side2 A39.out).mono ?_); (case side1 => exact zk (Kd.V_reads' HO_5.out).2.2); (case side2 => exact (Kd.V_reads' HO_5.out).2.1); rintro e w61 ⟨rfl, hb⟩; refine ⟨_, rfl, ?_⟩; refine up2 (Kd.V_below (zv HO_5.out) hb) (below_step (zb HB.out) hb) ?_; clear HO_5 HB; intro HO_5 HB; (try clear hb); (try clear hb2); (try clear hk); (try clear hi)) | ((with_reducible refine gate_callee (f := 13) rfl ?_); refine goesL_ (some 179) rfl rfl Try.func13 (by kernel_rfl) rfl #[.slice Ao17 t276.length co17, .int .i64 (wrap64 (t279 - 150))] rfl zr ?_; (with_reducible refine (impl_PlyYarns.calls kj32 _ _ t276 (wrap64 (t279 - 150)) t296 t297 t298 t299 _ ?side1 ?side2 A40.out).mono ?_); (case side1 => exact zk (Kd.V_reads' HO_5.out).2.2); (case side2 => exact (Kd.V_reads' HO_5.out).2.1); rintro e w62 ⟨rfl, hb⟩; refine ⟨_, rfl, ?_⟩; refine up2 (Kd.V_below (zv HO_5.out) hb) (below_step (zb HB.out) hb) ?_; clear HO_5 HB; intro HO_5 HB; (try clear hb); (try clear hb2); (try clear hk); (try clear hi)) | ((with_reducible refine gate_dst (N := 23) rfl ?_); (try (refine gate_guard (by rfl) ?_; dsimp only)); refine box_event ?hg (N := 23) ?hd (cs := #[.int .i16 0, .int .i16 0, .int .i16 0]) (t := 33) ?hr ?_; (case hd => rfl); (case hg => rfl); (case hr => first | (go_simp; done) | (go_simp; rfl)); intro gb300 hg w63 hbox hb; refine up5 (Kd.V_below (Kd.V_elderB (zv HO_5.out) gb300 (Nat.le_of_eq hg.symm)) hb) (below_step (zb HB.out) hb) (hbox) ((by rw [hg]; exact (below_size (zb HB.out)) : w.heap.size ≤ gb300)) ((by rw [hg]; exact (below_size (zb HB.out)) : w.heap.size ≤ gb300)) ?_; clear HO_5 HB; intro HO_5 HB BK300 GW300 GE300; clear hb hbox hg; have hcz64_0 : w63.cell? ⟨gb300, 0, none⟩ = some (.int .i16 0) := (blk_cell BK300.out 0).trans rfl; have hcz64_1 : w63.cell? ⟨gb300, 1, none⟩ = some (.int .i16 0) := (blk_cell BK300.out 1).trans rfl; have hcz64_2 : w63.cell? ⟨gb300, 2, none⟩ = some (.int .i16 0) := (blk_cell BK300.out 2).trans rfl; have hfz64_0 := blk_frozen BK300.out 0; have hfz64_1 := blk_frozen BK300.out 1; have hfz64_2 := blk_frozen BK300.out 2) | ((with_reducible refine gate_callee (f := 14) rfl ?_); refine goesL_ (some 185) rfl rfl Try.func14 (by kernel_rfl) rfl #[.slice Ao17 t276.length co17, .int .i64 (wrap64 (t279 - 150))] rfl zr ?_; (with_reducible refine (spec_PlyYarns.calls kj32 _ _ t276 (wrap64 (t279 - 150)) t301 t302 t303 t304 _ ?side1 ?side2 A41.out).mono ?_); (case side1 => refine (Kd.V_reads' (e := 33) (base := w.heap.size) (ok := fun k_ => (True ∧ k_ ≠ gb300)) (n := t276.length) (c := co17) ?_).2.2; exact (by (with_reducible repeat (first | apply Kd.V_alloc | apply Kd.V_drewN | apply Kd.V_drew)); exact (Kd.V_mono (Kd.V_far (p := ⟨gb300, 2, none⟩) (Kd.V_far (p := ⟨gb300, 1, none⟩) (Kd.V_far (p := ⟨gb300, 0, none⟩) (Kd.V_mono HO_5.out (fun k_ hk => (⟨hk, hk.2⟩ : _ ∧ k_ ≠ gb300))) (fun _ hk => hk.2) (.int .i16 t296)) (fun _ hk => hk.2) (.int .i16 t297)) (fun _ hk => hk.2) (.int .i16 t298)) (fun _ h_ => h_.1)))); (case side2 => exact (Kd.V_reads' HO_5.out).2.1); rintro e w65 ⟨rfl, hb⟩; refine ⟨_, rfl, ?_⟩; refine up3 (Kd.V_below (by (with_reducible repeat (first | apply Kd.V_alloc | apply Kd.V_drewN | apply Kd.V_drew)); exact (Kd.V_mono (Kd.V_far (p := ⟨gb300, 2, none⟩) (Kd.V_far (p := ⟨gb300, 1, none⟩) (Kd.V_far (p := ⟨gb300, 0, none⟩) (Kd.V_mono HO_5.out (fun k_ hk => (⟨hk, hk.2⟩ : _ ∧ k_ ≠ gb300))) (fun _ hk => hk.2) (.int .i16 t296)) (fun _ hk => hk.2) (.int .i16 t297)) (fun _ hk => hk.2) (.int .i16 t298)) (fun _ h_ => h_.1))) hb) (blk_below (g := gb300) (o := .cells #[.int .i16 t296, .int .i16 t297, .int .i16 t298] 33 (0, 0)) (by (with_reducible repeat (first | refine blk_drewN ?_ _ | refine blk_drew ?_ | refine blk_alloc ?_ _)); refine blk_put (cs := #[.int .i16 t296, .int .i16 t297, .int .i16 0]) ?_ 2 _ rfl; (with_reducible repeat (first | refine blk_drewN ?_ _ | refine blk_drew ?_ | refine blk_alloc ?_ _)); refine blk_put (cs := #[.int .i16 t296, .int .i16 0, .int .i16 0]) ?_ 1 _ rfl; (with_reducible repeat (first | refine blk_drewN ?_ _ | refine blk_drew ?_ | refine blk_alloc ?_ _)); refine blk_put (cs := #[.int .i16 0, .int .i16 0, .int .i16 0]) ?_ 0 _ rfl; (with_reducible repeat (first | refine blk_drewN ?_ _ | refine blk_drew ?_ | refine blk_alloc ?_ _)); exact BK300.out) hb) (below_step (zb1 HB.out GE300.out) hb) ?_; clear HO_5 BK300 HB; intro HO_5 BK300 HB; (try clear hb); (try clear hb2); (try clear hk); (try clear hi)) | ((with_reducible refine gate_dst (N := 25) rfl ?_); (try (refine gate_guard (by rfl) ?_; dsimp only)); refine box_event ?hg (N := 25) ?hd (cs := #[.int .i16 0, .int .i16 0, .int .i16 0]) (t := 33) ?hr ?_; (case hd => rfl); (case hg => rfl); (case hr => first | (go_simp; done) | (go_simp; rfl)); intro gb305 hg w66 hbox hb; refine up8 (Kd.V_below (Kd.V_elderB (zv HO_5.out) gb305 (Nat.le_of_eq hg.symm)) hb) (blk_below (g := gb300) (o := .cells #[.int .i16 t296, .int .i16 t297, .int .i16 t298] 33 (0, 0)) (zq BK300.out) hb) (below_step (zb1 HB.out GE300.out) hb) (hbox) ((by rw [hg]; exact (below_size (zb1 HB.out GE300.out)) : w.heap.size ≤ gb305)) ((by rw [hg]; exact (below_size (zb1 HB.out GE300.out)) : w.heap.size ≤ gb305)) ((by rw [hg]; exact Nat.ne_of_lt (blk_lt (g := gb300) (o := .cells #[.int .i16 t296, .int .i16 t297, .int .i16 t298] 33 (0, 0)) (zq BK300.out)) : gb300 ≠ gb305)) ((by rw [hg]; exact Nat.ne_of_gt (blk_lt (g := gb300) (o := .cells #[.int .i16 t296, .int .i16 t297, .int .i16 t298] 33 (0, 0)) (zq BK300.out)) : gb305 ≠ gb300)) ?_; clear HO_5 BK300 HB; intro HO_5 BK300 HB BK305 GW305 GE305 NB300_305 NB305_300; clear hb hbox hg; have hnb67 := NB305_300.out; have hnc67 := NB300_305.out; have hcz68_0 : w66.cell? ⟨gb305, 0, none⟩ = some (.int .i16 0) := (blk_cell BK305.out 0).trans rfl; have hcz68_1 : w66.cell? ⟨gb305, 1, none⟩ = some (.int .i16 0) := (blk_cell BK305.out 1).trans rfl; have hcz68_2 : w66.cell? ⟨gb305, 2, none⟩ = some (.int .i16 0) := (blk_cell BK305.out 2).trans rfl; have hfz68_0 := blk_frozen BK305.out 0; have hfz68_1 := blk_frozen BK305.out 1; have hfz68_2 := blk_frozen BK305.out 2; have hcz69_0 : w66.cell? ⟨gb300, 0, none⟩ = some (.int .i16 t296) := (blk_cell BK300.out 0).trans rfl; have hcz69_1 : w66.cell? ⟨gb300, 1, none⟩ = some (.int .i16 t297) := (blk_cell BK300.out 1).trans rfl; have hcz69_2 : w66.cell? ⟨gb300, 2, none⟩ = some (.int .i16 t298) := (blk_cell BK300.out 2).trans rfl; have hfz69_0 := blk_frozen BK300.out 0; have hfz69_1 := blk_frozen BK300.out 1; have hfz69_2 := blk_frozen BK300.out 2))
       go_meet
       case rel => exact ⟨_, H', ⟨by have := HJ2.out; have := HJ13.out; have := HJ32.out; first | omega | exact Nat.le_refl _⟩, ⟨by (with_reducible repeat (first | apply Kd.V_alloc | apply Kd.V_drewN | apply Kd.V_drew)); exact Kd.V_mono (Kd.V_far (p := ⟨gb305, 2, none⟩) (Kd.V_far (p := ⟨gb305, 1, none⟩) (Kd.V_far (p := ⟨gb305, 0, none⟩) (Kd.V_mono HO_5.out (fun k_ hk => (⟨hk, hk.2⟩ : _ ∧ k_ ≠ gb305))) (fun _ hk => hk.2) (.int .i16 t301)) (fun _ hk => hk.2) (.int .i16 t302)) (fun _ hk => hk.2) (.int .i16 t303)) (fun _ hk => trivial)⟩, ⟨zb2 HB.out GE300.out GE305.out⟩⟩
     rw [if_pos c47] at H
     have c47b0 : (t299 == 0) = true := beq_iff_eq.mpr c47
     have c47b1 : (t299 != 0) = false := bne_eq_false_iff_eq.mpr c47
     clear c47
     by_cases c48 : (wrap64 (t301)) = t294
     rotate_left
     · rw [if_neg c48] at H
       exact absurd H (by simp)
     rw [if_pos c48] at H
     have c48b0 : ((wrap64 (t301)) == t294) = true := beq_iff_eq.mpr c48
     have c48b1 : ((wrap64 (t301)) != t294) = false := bne_eq_false_iff_eq.mpr c48
     clear c48
     by_cases c49 : (wrap64 (t302)) = (wrap64 (t279 - 150))
     rotate_left
     · rw [if_neg c49] at H
       exact absurd H (by simp)
     rw [if_pos c49] at H
     have c49b0 : ((wrap64 (t302)) == (wrap64 (t279 - 150))) = true := beq_iff_eq.mpr c49
     have c49b1 : ((wrap64 (t302)) != (wrap64 (t279 - 150))) = false := bne_eq_false_iff_eq.mpr c49
     clear c49
     have H' := Aside0.mk H
     clear H
     go_wp2_with (first | ((with_reducible refine gate_callee (f := 11) rfl ?_); refine goesL_ (some 167) rfl rfl Try.func11 (by kernel_rfl) rfl #[.slice Ao17 t276.length co17, .int .i64 (wrap64 (t279 - 150))] rfl zr ?_; (with_reducible refine (impl_PlyLong.calls kj32 _ _ t276 (wrap64 (t279 - 150)) t292 t293 _ ?side1 ?side2 A38.out).mono ?_); (case side1 => exact zk (Kd.V_reads' HO_5.out).2.2); (case side2 => exact (Kd.V_reads' HO_5.out).2.1); rintro e w50 ⟨rfl, hb⟩; refine ⟨_, rfl, ?_⟩; refine up2 (Kd.V_below (zv HO_5.out) hb) (below_step (zb HB.out) hb) ?_; clear HO_5 HB; intro HO_5 HB; (try clear hb); (try clear hb2); (try clear hk); (try clear hi)) | ((with_reducible refine gate_callee (f := 12) rfl ?_); refine goesL_ (some 173) rfl rfl Try.func12 (by kernel_rfl) rfl #[.slice Ao17 t276.length co17, .int .i64 (wrap64 (t279 - 150))] rfl zr ?_; (with_reducible refine (spec_PlyLong.calls kj32 _ _ t276 (wrap64 (t279 - 150)) t294 t295 _ ?side1 ?side2 A39.out).mono ?_); (case side1 => exact zk (Kd.V_reads' HO_5.out).2.2); (case side2 => exact (Kd.V_reads' HO_5.out).2.1); rintro e w51 ⟨rfl, hb⟩; refine ⟨_, rfl, ?_⟩; refine up2 (Kd.V_below (zv HO_5.out) hb) (below_step (zb HB.out) hb) ?_; clear HO_5 HB; intro HO_5 HB; (try clear hb); (try clear hb2); (try clear hk); (try clear hi)) | ((with_reducible refine gate_callee (f := 13) rfl ?_); refine goesL_ (some 179) rfl rfl Try.func13 (by kernel_rfl) rfl #[.slice Ao17 t276.length co17, .int .i64 (wrap64 (t279 - 150))] rfl zr ?_; (with_reducible refine (impl_PlyYarns.calls kj32 _ _ t276 (wrap64 (t279 - 150)) t296 t297 t298 t299 _ ?side1 ?side2 A40.out).mono ?_); (case side1 => exact zk (Kd.V_reads' HO_5.out).2.2); (case side2 => exact (Kd.V_reads' HO_5.out).2.1); rintro e w52 ⟨rfl, hb⟩; refine ⟨_, rfl, ?_⟩; refine up2 (Kd.V_below (zv HO_5.out) hb) (below_step (zb HB.out) hb) ?_; clear HO_5 HB; intro HO_5 HB; (try clear hb); (try clear hb2); (try clear hk); (try clear hi)) | ((with_reducible refine gate_dst (N := 23) rfl ?_); (try (refine gate_guard (by rfl) ?_; dsimp only)); refine box_event ?hg (N := 23) ?hd (cs := #[.int .i16 0, .int .i16 0, .int .i16 0]) (t := 33) ?hr ?_; (case hd => rfl); (case hg => rfl); (case hr => first | (go_simp; done) | (go_simp; rfl)); intro gb300 hg w53 hbox hb; refine up5 (Kd.V_below (Kd.V_elderB (zv HO_5.out) gb300 (Nat.le_of_eq hg.symm)) hb) (below_step (zb HB.out) hb) (hbox) ((by rw [hg]; exact (below_size (zb HB.out)) : w.heap.size ≤ gb300)) ((by rw [hg]; exact (below_size (zb HB.out)) : w.heap.size ≤ gb300)) ?_; clear HO_5 HB; intro HO_5 HB BK300 GW300 GE300; clear hb hbox hg; have hcz54_0 : w53.cell? ⟨gb300, 0, none⟩ = some (.int .i16 0) := (blk_cell BK300.out 0).trans rfl; have hcz54_1 : w53.cell? ⟨gb300, 1, none⟩ = some (.int .i16 0) := (blk_cell BK300.out 1).trans rfl; have hcz54_2 : w53.cell? ⟨gb300, 2, none⟩ = some (.int .i16 0) := (blk_cell BK300.out 2).trans rfl; have hfz54_0 := blk_frozen BK300.out 0; have hfz54_1 := blk_frozen BK300.out 1; have hfz54_2 := blk_frozen BK300.out 2) | ((with_reducible refine gate_callee (f := 14) rfl ?_); refine goesL_ (some 185) rfl rfl Try.func14 (by kernel_rfl) rfl #[.slice Ao17 t276.length co17, .int .i64 (wrap64 (t279 - 150))] rfl zr ?_; (with_reducible refine (spec_PlyYarns.calls kj32 _ _ t276 (wrap64 (t279 - 150)) t301 t302 t303 t304 _ ?side1 ?side2 A41.out).mono ?_); (case side1 => refine (Kd.V_reads' (e := 33) (base := w.heap.size) (ok := fun k_ => (True ∧ k_ ≠ gb300)) (n := t276.length) (c := co17) ?_).2.2; exact (by (with_reducible repeat (first | apply Kd.V_alloc | apply Kd.V_drewN | apply Kd.V_drew)); exact (Kd.V_mono (Kd.V_far (p := ⟨gb300, 2, none⟩) (Kd.V_far (p := ⟨gb300, 1, none⟩) (Kd.V_far (p := ⟨gb300, 0, none⟩) (Kd.V_mono HO_5.out (fun k_ hk => (⟨hk, hk.2⟩ : _ ∧ k_ ≠ gb300))) (fun _ hk => hk.2) (.int .i16 t296)) (fun _ hk => hk.2) (.int .i16 t297)) (fun _ hk => hk.2) (.int .i16 t298)) (fun _ h_ => h_.1)))); (case side2 => exact (Kd.V_reads' HO_5.out).2.1); rintro e w55 ⟨rfl, hb⟩; refine ⟨_, rfl, ?_⟩; refine up3 (Kd.V_below (by (with_reducible repeat (first | apply Kd.V_alloc | apply Kd.V_drewN | apply Kd.V_drew)); exact (Kd.V_mono (Kd.V_far (p := ⟨gb300, 2, none⟩) (Kd.V_far (p := ⟨gb300, 1, none⟩) (Kd.V_far (p := ⟨gb300, 0, none⟩) (Kd.V_mono HO_5.out (fun k_ hk => (⟨hk, hk.2⟩ : _ ∧ k_ ≠ gb300))) (fun _ hk => hk.2) (.int .i16 t296)) (fun _ hk => hk.2) (.int .i16 t297)) (fun _ hk => hk.2) (.int .i16 t298)) (fun _ h_ => h_.1))) hb) (blk_below (g := gb300) (o := .cells #[.int .i16 t296, .int .i16 t297, .int .i16 t298] 33 (0, 0)) (by (with_reducible repeat (first | refine blk_drewN ?_ _ | refine blk_drew ?_ | refine blk_alloc ?_ _)); refine blk_put (cs := #[.int .i16 t296, .int .i16 t297, .int .i16 0]) ?_ 2 _ rfl; (with_reducible repeat (first | refine blk_drewN ?_ _ | refine blk_drew ?_ | refine blk_alloc ?_ _)); refine blk_put (cs := #[.int .i16 t296, .int .i16 0, .int .i16 0]) ?_ 1 _ rfl; (with_reducible repeat (first | refine blk_drewN ?_ _ | refine blk_drew ?_ | refine blk_alloc ?_ _)); refine blk_put (cs := #[.int .i16 0, .int .i16 0, .int .i16 0]) ?_ 0 _ rfl; (with_reducible repeat (first | refine blk_drewN ?_ _ | refine blk_drew ?_ | refine blk_alloc ?_ _)); exact BK300.out) hb) (below_step (zb1 HB.out GE300.out) hb) ?_; clear HO_5 BK300 HB; intro HO_5 BK300 HB; (try clear hb); (try clear hb2); (try clear hk); (try clear hi)) | ((with_reducible refine gate_dst (N := 25) rfl ?_); (try (refine gate_guard (by rfl) ?_; dsimp only)); refine box_event ?hg (N := 25) ?hd (cs := #[.int .i16 0, .int .i16 0, .int .i16 0]) (t := 33) ?hr ?_; (case hd => rfl); (case hg => rfl); (case hr => first | (go_simp; done) | (go_simp; rfl)); intro gb305 hg w56 hbox hb; refine up8 (Kd.V_below (Kd.V_elderB (zv HO_5.out) gb305 (Nat.le_of_eq hg.symm)) hb) (blk_below (g := gb300) (o := .cells #[.int .i16 t296, .int .i16 t297, .int .i16 t298] 33 (0, 0)) (zq BK300.out) hb) (below_step (zb1 HB.out GE300.out) hb) (hbox) ((by rw [hg]; exact (below_size (zb1 HB.out GE300.out)) : w.heap.size ≤ gb305)) ((by rw [hg]; exact (below_size (zb1 HB.out GE300.out)) : w.heap.size ≤ gb305)) ((by rw [hg]; exact Nat.ne_of_lt (blk_lt (g := gb300) (o := .cells #[.int .i16 t296, .int .i16 t297, .int .i16 t298] 33 (0, 0)) (zq BK300.out)) : gb300 ≠ gb305)) ((by rw [hg]; exact Nat.ne_of_gt (blk_lt (g := gb300) (o := .cells #[.int .i16 t296, .int .i16 t297, .int .i16 t298] 33 (0, 0)) (zq BK300.out)) : gb305 ≠ gb300)) ?_; clear HO_5 BK300 HB; intro HO_5 BK300 HB BK305 GW305 GE305 NB300_305 NB305_300; clear hb hbox hg; have hnb57 := NB305_300.out; have hnc57 := NB300_305.out; have hcz58_0 : w56.cell? ⟨gb305, 0, none⟩ = some (.int .i16 0) := (blk_cell BK305.out 0).trans rfl; have hcz58_1 : w56.cell? ⟨gb305, 1, none⟩ = some (.int .i16 0) := (blk_cell BK305.out 1).trans rfl; have hcz58_2 : w56.cell? ⟨gb305, 2, none⟩ = some (.int .i16 0) := (blk_cell BK305.out 2).trans rfl; have hfz58_0 := blk_frozen BK305.out 0; have hfz58_1 := blk_frozen BK305.out 1; have hfz58_2 := blk_frozen BK305.out 2; have hcz59_0 : w56.cell? ⟨gb300, 0, none⟩ = some (.int .i16 t296) := (blk_cell BK300.out 0).trans rfl; have hcz59_1 : w56.cell? ⟨gb300, 1, none⟩ = some (.int .i16 t297) := (blk_cell BK300.out 1).trans rfl; have hcz59_2 : w56.cell? ⟨gb300, 2, none⟩ = some (.int .i16 t298) := (blk_cell BK300.out 2).trans rfl; have hfz59_0 := blk_frozen BK300.out 0; have hfz59_1 := blk_frozen BK300.out 1; have hfz59_2 := blk_frozen BK300.out 2))
     go_meet
     case rel => exact ⟨_, H', ⟨by have := HJ2.out; have := HJ13.out; have := HJ32.out; first | omega | exact Nat.le_refl _⟩, ⟨by (with_reducible repeat (first | apply Kd.V_alloc | apply Kd.V_drewN | apply Kd.V_drew)); exact Kd.V_mono (Kd.V_far (p := ⟨gb305, 2, none⟩) (Kd.V_far (p := ⟨gb305, 1, none⟩) (Kd.V_far (p := ⟨gb305, 0, none⟩) (Kd.V_mono HO_5.out (fun k_ hk => (⟨hk, hk.2⟩ : _ ∧ k_ ≠ gb305))) (fun _ hk => hk.2) (.int .i16 t301)) (fun _ hk => hk.2) (.int .i16 t302)) (fun _ hk => hk.2) (.int .i16 t303)) (fun _ hk => trivial)⟩, ⟨zb2 HB.out GE300.out GE305.out⟩⟩
   case rest =>
   go_step
   exact laws_FnPlies.p3 (by kernel_rfl) HR1 HC1 hcut

theorem laws_FnPlies.walk (P : laws_FnPlies.Pure) (A0 : Option Addr) (c0 : Nat) (l0 : List Int) (A1 : Option Addr) (c1 : Nat) (l1 : List Int) (w : World) (hr0 : Kd.C (Kd.int .u8) w A0 l0.length l0) (hc0 : l0.length ≤ c0) (hr1 : Kd.C (Kd.int .u8) w A1 l1.length l1) (hc1 : l1.length ≤ c1) (g0 : (l0.length * 1 ≤ 140737488351232 ∧ ∀ x_ ∈ l0, (Lit.int .u8 x_).wf = true)) (g1 : (l1.length * 1 ≤ 140737488351232 ∧ ∀ x_ ∈ l1, (Lit.int .u8 x_).wf = true)) :
    Calls Try.prog 3 #[.slice A0 l0.length c0, .slice A1 l1.length c1] w fun e w' => e = .returned (.bool true) ∧ Below w.heap.size w w' := by
  obtain ⟨k, h⟩ := P l0 l1 g0 g1
  refine (laws_FnPlies.calls k A0 c0 l0 A1 c1 l1 true w hr0 hc0 hr1 hc1 h).mono ?_
  rintro e w' ⟨rfl, hd⟩
  exact ⟨rfl, hd⟩

end Go.Proofs.Ythfanjdbemoaaaa.XFnPlies
