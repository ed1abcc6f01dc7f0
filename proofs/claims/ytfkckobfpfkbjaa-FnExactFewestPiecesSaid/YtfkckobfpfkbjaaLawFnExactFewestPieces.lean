/- The statement Rows.FnExactFewestPiecesSaid: for every input the law FnExactFewestPieces returns true and every argument reads afterwards as it read before; no conditions. -/
import Derived.Test.YtfkckobfpfkbjaaRows
import Derived.Test.YtfkckobfpfkbjaaXFnExactFewestPiecesx5
import Derived.Test.YtfkckobfpfkbjaaPureFnExactFewestPieces
import Derived.Test.YtfkckobfpfkbjaaXOpen
import Derived.WalkKit
import Derived.ProofKit
import Derived.OpenShut
import Derived.ShutString
import Derived.ChangeOld
import Derived.Below
import Derived.SizedLaws
namespace Go.Proofs.Ytfkckobfpfkbjaa.fnExactFewestPieces
open Go.ChangeShapes Go.WideShapes Go.ChangeAt Go.RowKit Go.Proofs.YtfkckobfpfkbjaaX Go.Proofs.Ytfkckobfpfkbjaa.XFnExactFewestPieces Go.Proofs.YtfkckobfpfkbjaaW.PrintWords
open Go.ChangeMaps (open_string shut_string)
set_option linter.unusedVariables false
theorem own : ownKnob Try.prog.godebug = none := by kernel_rfl
theorem laidOut : laidOutB Try.prog = true := by kernel_rfl
theorem dec_S109 {H : Type} (enc : TypeId × Value → H) (W : World) : Dec enc Try.prog W 109 k109 (fun x : S109 => ((Lit.int .i16 x.f0).wf = true ∧ (Lit.int .i16 x.f1).wf = true ∧ (Lit.int .i16 x.f2).wf = true)) := by
  intro n cs x h hw
  obtain ⟨xs, m, _, hx, hcl, hxl, hf⟩ := DataW.trod_struct Try.underlying109 h
  have hc : Try.prog.cellsOf 109 = 3 := by kernel_rfl
  rw [hc] at hcl
  obtain ⟨c0, c1, c2, rfl⟩ := list3 hcl
  obtain ⟨y0, y1, y2, rfl⟩ := list3 (show xs.length = 3 from hxl)
  subst hx
  have h0 : DataW.trod enc Try.prog W 0 (fun _ => true) true m 27 [c0] = some y0 := by (have z : DataW.trod enc Try.prog W 0 (fun _ => true) true m 27 (([c0, c1, c2].drop 0).take (Try.prog.cellsOf 27)) = some y0 := hf 0 _ rfl; have hz : Try.prog.cellsOf 27 = 1 := (by kernel_rfl); rw [hz] at z; exact z)
  obtain ⟨v0, k0_, g0⟩ := (Dec.int Try.underlying27) _ _ _ h0 (fun q hq => hw q (by simp only [DataW.weights, Try.underlying109]; exact weights_each (j := 0) rfl rfl q hq))
  have h1 : DataW.trod enc Try.prog W 0 (fun _ => true) true m 27 [c1] = some y1 := by (have z : DataW.trod enc Try.prog W 0 (fun _ => true) true m 27 (([c0, c1, c2].drop 1).take (Try.prog.cellsOf 27)) = some y1 := hf 1 _ rfl; have hz : Try.prog.cellsOf 27 = 1 := (by kernel_rfl); rw [hz] at z; exact z)
  obtain ⟨v1, k1_, g1⟩ := (Dec.int Try.underlying27) _ _ _ h1 (fun q hq => hw q (by simp only [DataW.weights, Try.underlying109]; exact weights_each (j := 1) rfl rfl q hq))
  have h2 : DataW.trod enc Try.prog W 0 (fun _ => true) true m 27 [c2] = some y2 := by (have z : DataW.trod enc Try.prog W 0 (fun _ => true) true m 27 (([c0, c1, c2].drop 2).take (Try.prog.cellsOf 27)) = some y2 := hf 2 _ rfl; have hz : Try.prog.cellsOf 27 = 1 := (by kernel_rfl); rw [hz] at z; exact z)
  obtain ⟨v2, k2_, g2⟩ := (Dec.int Try.underlying27) _ _ _ h2 (fun q hq => hw q (by simp only [DataW.weights, Try.underlying109]; exact weights_each (j := 2) rfl rfl q hq))
  exact ⟨⟨v0, v1, v2⟩, ⟨[c0], [c1, c2], rfl, k0_, ⟨[c1], [c2], rfl, k1_, k2_⟩⟩, ⟨g0, g1, g2⟩⟩
set_option maxRecDepth 100000 in
theorem lifted (os : Os) (started : os.Started) (H : Type) (enc : TypeId × Value → H) :
    ReturnsInHanded {} Try.checked os 10 .any (Rows.fnExactFewestPiecesSpec.pre6 enc Try.prog Try.f10 Rows.fnExactFewestPiecesRow.domain false) (Rows.fnExactFewestPiecesSpec.post enc Try.prog Try.f10 false true false false) := by
  refine returnsInHanded_of_change_sized (C := Try.checked) own started (by kernel_rfl) Try.func10
    (ChangeSpec.witness6 (enc := enc) (C := Try.checked) false ⟨#[], #[.slice none 0 0, .int .i64 0, .int .i64 0], []⟩ 8 (by kernel_rfl) (by kernel_rfl) (by kernel_rfl) (by kernel_rfl)) ?_
  intro W base args ds gs before hval0 hW hcnd hsz0 _
  have hsz : (DataW.weightsEach Try.prog (Try.f10.params.toList ++ Rows.fnExactFewestPiecesSpec.plain.varTypes Try.prog) (ds ++ gs)).all (· ≤ reachBytes) = true := hsz0
  have hval : ∀ (j : Nat) t v, Try.f10.params[j]? = some t → args[j]? = some v → Value.okWide Try.prog W .any base t v := hval0
  have hW' := hW
  obtain ⟨p, q, hA0, hV, rfl, hfz, hnd⟩ := hW
  have hA : DataW.TrodAll enc Try.prog W 0 (fun _ => true) true Try.f10.params.toList args.toList ds p := hA0
  rw [Try.params10] at hA hval hsz
  obtain ⟨v0, vs0, d0, ds0, p0, q0, hargs, rfl, rfl, h0, r0⟩ := trodAll_cons hA
  obtain ⟨v1, vs1, d1, ds1, p1, q1, rfl, rfl, rfl, h1, r1⟩ := trodAll_cons r0
  obtain ⟨v2, vs2, d2, ds2, p2, q2, rfl, rfl, rfl, h2, r2⟩ := trodAll_cons r1
  obtain ⟨rfl, rfl, rfl⟩ := trodAll_nil r2
  obtain rfl : args = #[v0, v1, v2] := by cases args; simp_all
  obtain ⟨rfl, rfl⟩ := trodVars_none hV
  have k0 := h0
  have lt0 : ∀ x ∈ p0, x.block < W.heap.size := by obtain ⟨m, hm⟩ := k0; exact DataW.trod_lt m _ _ _ hm
  obtain ⟨y0, K0, g0⟩ := Dec.arg (Dec.slice (B := 6) Try.underlying42 (by kernel_rfl) (by kernel_rfl) (dec_S109 enc W)) hsz (j := 0) (t := 42) rfl rfl h0
  obtain ⟨a0, len0, cap0, rfl⟩ := okWide_slice Try.underlying42 (hval 0 42 v0 rfl rfl)
  obtain ⟨A0, c0, he0, hc0, hr0⟩ := K0
  simp only [Value.cells, List.cons.injEq, Value.slice.injEq, and_true] at he0
  obtain ⟨rfl, rfl, rfl⟩ := he0
  obtain ⟨a1, rfl, rfl, rfl, w1⟩ := open_int Try.underlying2 (hval 1 2 v1 rfl rfl) h1
  obtain ⟨a2, rfl, rfl, rfl, w2⟩ := open_int Try.underlying2 (hval 2 2 v2 rfl rfl) h2
  clear hA0 hval0 hsz0 hsz
  refine (XFnExactFewestPieces.laws_FnExactFewestPieces.walk Pure.FnExactFewestPieces _ _ y0 a1 a2 W hr0 hc0 g0 w1 w2).mono fun e W' ⟨he, bel⟩ => ?_
  subst he
  exact ⟨_, rfl, _, _, _, [], _, [], hW', trodAll_mk1 (shut_bool Try.underlying4 _), (trodAll_cons_mk (Below.trod laidOut (by kernel_rfl) (of_decide_eq_true (by kernel_rfl)) k0 bel lt0) (trodAll_cons_mk (shut_int Try.underlying2 w1) (trodAll_cons_mk (shut_int Try.underlying2 w2) trodAll_mk0))), rfl, bel.frame _, fun h => by cases h⟩
theorem over : Rows.fnExactFewestPiecesRow.holds Try.pinned (OpenSpec.ofChange Rows.fnExactFewestPiecesSpec) :=
  OpenClaim.holds_of_wide 10 Try.f10 rfl rfl rfl rfl rfl rfl rfl ⟨rfl, rfl, rfl, rfl, rfl⟩ rfl rfl rfl rfl rfl (by kernel_rfl) Try.func10 (by kernel_rfl)
    (of_decide_eq_true (by kernel_rfl)) (by unfold Func.isWrapper; first | (rw [if_pos (by decide +kernel)]; kernel_rfl) | (rw [if_neg (by decide +kernel)]; exact ⟨rfl, rfl⟩))
    (fun os started H enc _ => lifted os started H enc)
theorem proved : Rows.FnExactFewestPiecesSaid := over
end Go.Proofs.Ytfkckobfpfkbjaa.fnExactFewestPieces
namespace Go.Proofs.Ytfkckobfpfkbjaa
/-- The row, under a short name, for the claim. -/
theorem fnExactFewestPieces_holds : Rows.FnExactFewestPiecesSaid := fnExactFewestPieces.proved
end Go.Proofs.Ytfkckobfpfkbjaa
