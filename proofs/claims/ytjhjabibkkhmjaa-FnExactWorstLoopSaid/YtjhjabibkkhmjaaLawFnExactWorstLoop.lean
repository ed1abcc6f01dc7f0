/- The statement Rows.FnExactWorstLoopSaid: for every input the law FnExactWorstLoop returns true and every argument reads afterwards as it read before; no conditions. -/
import Derived.Test.YtjhjabibkkhmjaaRows
import Derived.Test.YtjhjabibkkhmjaaXFnExactWorstLoopx6
import Derived.Test.YtjhjabibkkhmjaaPureFnExactWorstLoop
import Derived.Test.YtjhjabibkkhmjaaXOpen
import Derived.WalkKit
import Derived.ProofKit
import Derived.OpenShut
import Derived.ShutString
import Derived.ChangeOld
import Derived.Below
import Derived.SizedLaws
namespace Go.Proofs.Ytjhjabibkkhmjaa.fnExactWorstLoop
open Go.ChangeShapes Go.WideShapes Go.ChangeAt Go.RowKit Go.Proofs.YtjhjabibkkhmjaaX Go.Proofs.Ytjhjabibkkhmjaa.XFnExactWorstLoop Go.Proofs.YtjhjabibkkhmjaaW.PrintWords
open Go.ChangeMaps (open_string shut_string)
set_option linter.unusedVariables false
theorem own : ownKnob Try.prog.godebug = none := by kernel_rfl
theorem laidOut : laidOutB Try.prog = true := by kernel_rfl
theorem dec_S55 {H : Type} (enc : TypeId × Value → H) (W : World) : Dec enc Try.prog W 55 k55 (fun x : S55 => ((Lit.int .i16 x.f0).wf = true ∧ (x.f1.length * 16 ≤ 140737488351232 ∧ ∀ x_ ∈ x.f1, x_.size ≤ 140737488351232))) := by
  intro n cs x h hw
  obtain ⟨xs, m, _, hx, hcl, hxl, hf⟩ := DataW.trod_struct Try.underlying55 h
  have hc : Try.prog.cellsOf 55 = 2 := by kernel_rfl
  rw [hc] at hcl
  obtain ⟨c0, c1, rfl⟩ := list2 hcl
  obtain ⟨y0, y1, rfl⟩ := list2 (show xs.length = 2 from hxl)
  subst hx
  have h0 : DataW.trod enc Try.prog W 0 (fun _ => true) true m 52 [c0] = some y0 := by (have z : DataW.trod enc Try.prog W 0 (fun _ => true) true m 52 (([c0, c1].drop 0).take (Try.prog.cellsOf 52)) = some y0 := hf 0 _ rfl; have hz : Try.prog.cellsOf 52 = 1 := (by kernel_rfl); rw [hz] at z; exact z)
  obtain ⟨v0, k0_, g0⟩ := (Dec.int Try.underlying52) _ _ _ h0 (fun q hq => hw q (by simp only [DataW.weights, Try.underlying55]; exact weights_each (j := 0) rfl rfl q hq))
  have h1 : DataW.trod enc Try.prog W 0 (fun _ => true) true m 53 [c1] = some y1 := by (have z : DataW.trod enc Try.prog W 0 (fun _ => true) true m 53 (([c0, c1].drop 1).take (Try.prog.cellsOf 53)) = some y1 := hf 1 _ rfl; have hz : Try.prog.cellsOf 53 = 1 := (by kernel_rfl); rw [hz] at z; exact z)
  obtain ⟨v1, k1_, g1⟩ := (Dec.slice (B := 16) Try.underlying53 (by kernel_rfl) (by kernel_rfl) (Dec.string Try.underlying9)) _ _ _ h1 (fun q hq => hw q (by simp only [DataW.weights, Try.underlying55]; exact weights_each (j := 1) rfl rfl q hq))
  exact ⟨⟨v0, v1⟩, ⟨[c0], [c1], rfl, k0_, k1_⟩, ⟨g0, g1⟩⟩
set_option maxRecDepth 100000 in
theorem lifted (os : Os) (started : os.Started) (H : Type) (enc : TypeId × Value → H) :
    ReturnsInHanded {} Try.checked os 7 .any (Rows.fnExactWorstLoopSpec.pre6 enc Try.prog Try.f7 Rows.fnExactWorstLoopRow.domain false) (Rows.fnExactWorstLoopSpec.post enc Try.prog Try.f7 false true false false) := by
  refine returnsInHanded_of_change_sized (C := Try.checked) own started (by kernel_rfl) Try.func7
    (ChangeSpec.witness6 (enc := enc) (C := Try.checked) false ⟨#[], #[.agg #[(.int .i16 0), (.slice none 0 0)]], []⟩ 8 (by kernel_rfl) (by kernel_rfl) (by kernel_rfl) (by kernel_rfl)) ?_
  intro W base args ds gs before hval0 hW hcnd hsz0 _
  have hsz : (DataW.weightsEach Try.prog (Try.f7.params.toList ++ Rows.fnExactWorstLoopSpec.plain.varTypes Try.prog) (ds ++ gs)).all (· ≤ reachBytes) = true := hsz0
  have hval : ∀ (j : Nat) t v, Try.f7.params[j]? = some t → args[j]? = some v → Value.okWide Try.prog W .any base t v := hval0
  have hW' := hW
  obtain ⟨p, q, hA0, hV, rfl, hfz, hnd⟩ := hW
  have hA : DataW.TrodAll enc Try.prog W 0 (fun _ => true) true Try.f7.params.toList args.toList ds p := hA0
  rw [Try.params7] at hA hval hsz
  obtain ⟨v0, vs0, d0, ds0, p0, q0, hargs, rfl, rfl, h0, r0⟩ := trodAll_cons hA
  obtain ⟨rfl, rfl, rfl⟩ := trodAll_nil r0
  obtain rfl : args = #[v0] := by cases args; simp_all
  obtain ⟨rfl, rfl⟩ := trodVars_none hV
  have k0 := h0
  have lt0 : ∀ x ∈ p0, x.block < W.heap.size := by obtain ⟨m, hm⟩ := k0; exact DataW.trod_lt m _ _ _ hm
  obtain ⟨y0, K0, g0⟩ := Dec.arg (dec_S55 enc W) hsz (j := 0) (t := 55) rfl rfl h0
  obtain ⟨⟨cs0⟩, rfl, hn0⟩ := okWide_struct Try.underlying55 (hval 0 55 v0 rfl rfl)
  have K0' : k55.K W y0 cs0 := K0
  obtain ⟨A0_1, c0_1, rfl, hc0_1, hr0_1⟩ := k55_open K0'
  clear hA0 hval0 hsz0 hsz
  refine (XFnExactWorstLoop.laws_FnExactWorstLoop.walk Pure.FnExactWorstLoop y0.f0 _ _ y0.f1 W hr0_1 hc0_1 g0.1 g0.2).mono fun e W' ⟨he, bel⟩ => ?_
  subst he
  exact ⟨_, rfl, _, _, _, [], _, [], hW', trodAll_mk1 (shut_bool Try.underlying4 _), (trodAll_cons_mk (Below.trod laidOut (by kernel_rfl) (of_decide_eq_true (by kernel_rfl)) k0 bel lt0) trodAll_mk0), rfl, bel.frame _, fun h => by cases h⟩
theorem over : Rows.fnExactWorstLoopRow.holds Try.pinned (OpenSpec.ofChange Rows.fnExactWorstLoopSpec) :=
  OpenClaim.holds_of_wide 7 Try.f7 rfl rfl rfl rfl rfl rfl rfl ⟨rfl, rfl, rfl, rfl, rfl⟩ rfl rfl rfl rfl rfl (by kernel_rfl) Try.func7 (by kernel_rfl)
    (of_decide_eq_true (by kernel_rfl)) (by unfold Func.isWrapper; first | (rw [if_pos (by decide +kernel)]; kernel_rfl) | (rw [if_neg (by decide +kernel)]; exact ⟨rfl, rfl⟩))
    (fun os started H enc _ => lifted os started H enc)
theorem proved : Rows.FnExactWorstLoopSaid := over
end Go.Proofs.Ytjhjabibkkhmjaa.fnExactWorstLoop
namespace Go.Proofs.Ytjhjabibkkhmjaa
/-- The row, under a short name, for the claim. -/
theorem fnExactWorstLoop_holds : Rows.FnExactWorstLoopSaid := fnExactWorstLoop.proved
end Go.Proofs.Ytjhjabibkkhmjaa
