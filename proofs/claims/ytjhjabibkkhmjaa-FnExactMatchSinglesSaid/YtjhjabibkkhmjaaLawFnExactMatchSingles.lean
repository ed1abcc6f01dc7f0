/- The statement Rows.FnExactMatchSinglesSaid: for every input the law FnExactMatchSingles returns true and every argument reads afterwards as it read before; no conditions. -/
import Derived.Test.YtjhjabibkkhmjaaRows
import Derived.Test.YtjhjabibkkhmjaaXFnExactMatchSinglesx6
import Derived.Test.YtjhjabibkkhmjaaPureFnExactMatchSingles
import Derived.Test.YtjhjabibkkhmjaaXOpen
import Derived.WalkKit
import Derived.ProofKit
import Derived.OpenShut
import Derived.ShutString
import Derived.ChangeOld
import Derived.Below
import Derived.SizedLaws
namespace Go.Proofs.Ytjhjabibkkhmjaa.fnExactMatchSingles
open Go.ChangeShapes Go.WideShapes Go.ChangeAt Go.RowKit Go.Proofs.YtjhjabibkkhmjaaX Go.Proofs.Ytjhjabibkkhmjaa.XFnExactMatchSingles Go.Proofs.YtjhjabibkkhmjaaW.PrintWords
open Go.ChangeMaps (open_string shut_string)
set_option linter.unusedVariables false
theorem own : ownKnob Try.prog.godebug = none := by kernel_rfl
theorem laidOut : laidOutB Try.prog = true := by kernel_rfl
theorem dec_S116 {H : Type} (enc : TypeId × Value → H) (W : World) : Dec enc Try.prog W 116 k116 (fun x : S116 => ((Lit.int .i16 x.f0).wf = true ∧ (Lit.int .i16 x.f1).wf = true ∧ (Lit.int .i16 x.f2).wf = true)) := by
  intro n cs x h hw
  obtain ⟨xs, m, _, hx, hcl, hxl, hf⟩ := DataW.trod_struct Try.underlying116 h
  have hc : Try.prog.cellsOf 116 = 3 := by kernel_rfl
  rw [hc] at hcl
  obtain ⟨c0, c1, c2, rfl⟩ := list3 hcl
  obtain ⟨y0, y1, y2, rfl⟩ := list3 (show xs.length = 3 from hxl)
  subst hx
  have h0 : DataW.trod enc Try.prog W 0 (fun _ => true) true m 52 [c0] = some y0 := by (have z : DataW.trod enc Try.prog W 0 (fun _ => true) true m 52 (([c0, c1, c2].drop 0).take (Try.prog.cellsOf 52)) = some y0 := hf 0 _ rfl; have hz : Try.prog.cellsOf 52 = 1 := (by kernel_rfl); rw [hz] at z; exact z)
  obtain ⟨v0, k0_, g0⟩ := (Dec.int Try.underlying52) _ _ _ h0 (fun q hq => hw q (by simp only [DataW.weights, Try.underlying116]; exact weights_each (j := 0) rfl rfl q hq))
  have h1 : DataW.trod enc Try.prog W 0 (fun _ => true) true m 52 [c1] = some y1 := by (have z : DataW.trod enc Try.prog W 0 (fun _ => true) true m 52 (([c0, c1, c2].drop 1).take (Try.prog.cellsOf 52)) = some y1 := hf 1 _ rfl; have hz : Try.prog.cellsOf 52 = 1 := (by kernel_rfl); rw [hz] at z; exact z)
  obtain ⟨v1, k1_, g1⟩ := (Dec.int Try.underlying52) _ _ _ h1 (fun q hq => hw q (by simp only [DataW.weights, Try.underlying116]; exact weights_each (j := 1) rfl rfl q hq))
  have h2 : DataW.trod enc Try.prog W 0 (fun _ => true) true m 52 [c2] = some y2 := by (have z : DataW.trod enc Try.prog W 0 (fun _ => true) true m 52 (([c0, c1, c2].drop 2).take (Try.prog.cellsOf 52)) = some y2 := hf 2 _ rfl; have hz : Try.prog.cellsOf 52 = 1 := (by kernel_rfl); rw [hz] at z; exact z)
  obtain ⟨v2, k2_, g2⟩ := (Dec.int Try.underlying52) _ _ _ h2 (fun q hq => hw q (by simp only [DataW.weights, Try.underlying116]; exact weights_each (j := 2) rfl rfl q hq))
  exact ⟨⟨v0, v1, v2⟩, ⟨[c0], [c1, c2], rfl, k0_, ⟨[c1], [c2], rfl, k1_, k2_⟩⟩, ⟨g0, g1, g2⟩⟩
set_option maxRecDepth 100000 in
theorem lifted (os : Os) (started : os.Started) (H : Type) (enc : TypeId × Value → H) :
    ReturnsInHanded {} Try.checked os 6 .any (Rows.fnExactMatchSinglesSpec.pre6 enc Try.prog Try.f6 Rows.fnExactMatchSinglesRow.domain false) (Rows.fnExactMatchSinglesSpec.post enc Try.prog Try.f6 false true false false) := by
  refine returnsInHanded_of_change_sized (C := Try.checked) own started (by kernel_rfl) Try.func6
    (ChangeSpec.witness6 (enc := enc) (C := Try.checked) false ⟨#[], #[.slice none 0 0], []⟩ 8 (by kernel_rfl) (by kernel_rfl) (by kernel_rfl) (by kernel_rfl)) ?_
  intro W base args ds gs before hval0 hW hcnd hsz0 _
  have hsz : (DataW.weightsEach Try.prog (Try.f6.params.toList ++ Rows.fnExactMatchSinglesSpec.plain.varTypes Try.prog) (ds ++ gs)).all (· ≤ reachBytes) = true := hsz0
  have hval : ∀ (j : Nat) t v, Try.f6.params[j]? = some t → args[j]? = some v → Value.okWide Try.prog W .any base t v := hval0
  have hW' := hW
  obtain ⟨p, q, hA0, hV, rfl, hfz, hnd⟩ := hW
  have hA : DataW.TrodAll enc Try.prog W 0 (fun _ => true) true Try.f6.params.toList args.toList ds p := hA0
  rw [Try.params6] at hA hval hsz
  obtain ⟨v0, vs0, d0, ds0, p0, q0, hargs, rfl, rfl, h0, r0⟩ := trodAll_cons hA
  obtain ⟨rfl, rfl, rfl⟩ := trodAll_nil r0
  obtain rfl : args = #[v0] := by cases args; simp_all
  obtain ⟨rfl, rfl⟩ := trodVars_none hV
  have k0 := h0
  have lt0 : ∀ x ∈ p0, x.block < W.heap.size := by obtain ⟨m, hm⟩ := k0; exact DataW.trod_lt m _ _ _ hm
  obtain ⟨y0, K0, g0⟩ := Dec.arg (Dec.slice (B := 6) Try.underlying34 (by kernel_rfl) (by kernel_rfl) (dec_S116 enc W)) hsz (j := 0) (t := 34) rfl rfl h0
  obtain ⟨a0, len0, cap0, rfl⟩ := okWide_slice Try.underlying34 (hval 0 34 v0 rfl rfl)
  obtain ⟨A0, c0, he0, hc0, hr0⟩ := K0
  simp only [Value.cells, List.cons.injEq, Value.slice.injEq, and_true] at he0
  obtain ⟨rfl, rfl, rfl⟩ := he0
  clear hA0 hval0 hsz0 hsz
  refine (XFnExactMatchSingles.laws_FnExactMatchSingles.walk Pure.FnExactMatchSingles _ _ y0 W hr0 hc0 g0).mono fun e W' ⟨he, bel⟩ => ?_
  subst he
  exact ⟨_, rfl, _, _, _, [], _, [], hW', trodAll_mk1 (shut_bool Try.underlying4 _), (trodAll_cons_mk (Below.trod laidOut (by kernel_rfl) (of_decide_eq_true (by kernel_rfl)) k0 bel lt0) trodAll_mk0), rfl, bel.frame _, fun h => by cases h⟩
theorem over : Rows.fnExactMatchSinglesRow.holds Try.pinned (OpenSpec.ofChange Rows.fnExactMatchSinglesSpec) :=
  OpenClaim.holds_of_wide 6 Try.f6 rfl rfl rfl rfl rfl rfl rfl ⟨rfl, rfl, rfl, rfl, rfl⟩ rfl rfl rfl rfl rfl (by kernel_rfl) Try.func6 (by kernel_rfl)
    (of_decide_eq_true (by kernel_rfl)) (by unfold Func.isWrapper; first | (rw [if_pos (by decide +kernel)]; kernel_rfl) | (rw [if_neg (by decide +kernel)]; exact ⟨rfl, rfl⟩))
    (fun os started H enc _ => lifted os started H enc)
theorem proved : Rows.FnExactMatchSinglesSaid := over
end Go.Proofs.Ytjhjabibkkhmjaa.fnExactMatchSingles
namespace Go.Proofs.Ytjhjabibkkhmjaa
/-- The row, under a short name, for the claim. -/
theorem fnExactMatchSingles_holds : Rows.FnExactMatchSinglesSaid := fnExactMatchSingles.proved
end Go.Proofs.Ytjhjabibkkhmjaa
