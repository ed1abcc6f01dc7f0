/- The statement Rows.FnExactGoesToSaid: for every input the law FnExactGoesTo returns true and every argument reads afterwards as it read before; no conditions. -/
import Derived.Test.YtejpdeaeflmmpaaRows
import Derived.Test.YtejpdeaeflmmpaaXFnExactGoesTox5
import Derived.Test.YtejpdeaeflmmpaaPureFnExactGoesTo
import Derived.Test.YtejpdeaeflmmpaaXOpen
import Derived.WalkKit
import Derived.ProofKit
import Derived.OpenShut
import Derived.ShutString
import Derived.ChangeOld
import Derived.Below
import Derived.SizedLaws
namespace Go.Proofs.Ytejpdeaeflmmpaa.fnExactGoesTo
open Go.ChangeShapes Go.WideShapes Go.ChangeAt Go.RowKit Go.Proofs.YtejpdeaeflmmpaaX Go.Proofs.Ytejpdeaeflmmpaa.XFnExactGoesTo Go.Proofs.YtejpdeaeflmmpaaW.PrintWords
open Go.ChangeMaps (open_string shut_string)
set_option linter.unusedVariables false
theorem own : ownKnob Try.prog.godebug = none := by kernel_rfl
theorem laidOut : laidOutB Try.prog = true := by kernel_rfl
theorem dec_S38 {H : Type} (enc : TypeId × Value → H) (W : World) : Dec enc Try.prog W 38 k38 (fun x : S38 => ((Lit.int .i16 x.f0).wf = true ∧ (x.f1.length * 16 ≤ 140737488351232 ∧ ∀ x_ ∈ x.f1, x_.size ≤ 140737488351232))) := by
  intro n cs x h hw
  obtain ⟨xs, m, _, hx, hcl, hxl, hf⟩ := DataW.trod_struct Try.underlying38 h
  have hc : Try.prog.cellsOf 38 = 2 := by kernel_rfl
  rw [hc] at hcl
  obtain ⟨c0, c1, rfl⟩ := list2 hcl
  obtain ⟨y0, y1, rfl⟩ := list2 (show xs.length = 2 from hxl)
  subst hx
  have h0 : DataW.trod enc Try.prog W 0 (fun _ => true) true m 35 [c0] = some y0 := by (have z : DataW.trod enc Try.prog W 0 (fun _ => true) true m 35 (([c0, c1].drop 0).take (Try.prog.cellsOf 35)) = some y0 := hf 0 _ rfl; have hz : Try.prog.cellsOf 35 = 1 := (by kernel_rfl); rw [hz] at z; exact z)
  obtain ⟨v0, k0_, g0⟩ := (Dec.int Try.underlying35) _ _ _ h0 (fun q hq => hw q (by simp only [DataW.weights, Try.underlying38]; exact weights_each (j := 0) rfl rfl q hq))
  have h1 : DataW.trod enc Try.prog W 0 (fun _ => true) true m 36 [c1] = some y1 := by (have z : DataW.trod enc Try.prog W 0 (fun _ => true) true m 36 (([c0, c1].drop 1).take (Try.prog.cellsOf 36)) = some y1 := hf 1 _ rfl; have hz : Try.prog.cellsOf 36 = 1 := (by kernel_rfl); rw [hz] at z; exact z)
  obtain ⟨v1, k1_, g1⟩ := (Dec.slice (B := 16) Try.underlying36 (by kernel_rfl) (by kernel_rfl) (Dec.string Try.underlying9)) _ _ _ h1 (fun q hq => hw q (by simp only [DataW.weights, Try.underlying38]; exact weights_each (j := 1) rfl rfl q hq))
  exact ⟨⟨v0, v1⟩, ⟨[c0], [c1], rfl, k0_, k1_⟩, ⟨g0, g1⟩⟩
theorem dec_S68 {H : Type} (enc : TypeId × Value → H) (W : World) : Dec enc Try.prog W 68 k68 (fun x : S68 => ((Lit.int .i16 x.f0).wf = true ∧ (Lit.int .i16 x.f1).wf = true)) := by
  intro n cs x h hw
  obtain ⟨xs, m, _, hx, hcl, hxl, hf⟩ := DataW.trod_struct Try.underlying68 h
  have hc : Try.prog.cellsOf 68 = 2 := by kernel_rfl
  rw [hc] at hcl
  obtain ⟨c0, c1, rfl⟩ := list2 hcl
  obtain ⟨y0, y1, rfl⟩ := list2 (show xs.length = 2 from hxl)
  subst hx
  have h0 : DataW.trod enc Try.prog W 0 (fun _ => true) true m 35 [c0] = some y0 := by (have z : DataW.trod enc Try.prog W 0 (fun _ => true) true m 35 (([c0, c1].drop 0).take (Try.prog.cellsOf 35)) = some y0 := hf 0 _ rfl; have hz : Try.prog.cellsOf 35 = 1 := (by kernel_rfl); rw [hz] at z; exact z)
  obtain ⟨v0, k0_, g0⟩ := (Dec.int Try.underlying35) _ _ _ h0 (fun q hq => hw q (by simp only [DataW.weights, Try.underlying68]; exact weights_each (j := 0) rfl rfl q hq))
  have h1 : DataW.trod enc Try.prog W 0 (fun _ => true) true m 35 [c1] = some y1 := by (have z : DataW.trod enc Try.prog W 0 (fun _ => true) true m 35 (([c0, c1].drop 1).take (Try.prog.cellsOf 35)) = some y1 := hf 1 _ rfl; have hz : Try.prog.cellsOf 35 = 1 := (by kernel_rfl); rw [hz] at z; exact z)
  obtain ⟨v1, k1_, g1⟩ := (Dec.int Try.underlying35) _ _ _ h1 (fun q hq => hw q (by simp only [DataW.weights, Try.underlying68]; exact weights_each (j := 1) rfl rfl q hq))
  exact ⟨⟨v0, v1⟩, ⟨[c0], [c1], rfl, k0_, k1_⟩, ⟨g0, g1⟩⟩
set_option maxRecDepth 100000 in
theorem lifted (os : Os) (started : os.Started) (H : Type) (enc : TypeId × Value → H) :
    ReturnsInHanded {} Try.checked os 10 .any (Rows.fnExactGoesToSpec.pre6 enc Try.prog Try.f10 Rows.fnExactGoesToRow.domain false) (Rows.fnExactGoesToSpec.post enc Try.prog Try.f10 false true false false) := by
  refine returnsInHanded_of_change_sized (C := Try.checked) own started (by kernel_rfl) Try.func10
    (ChangeSpec.witness6 (enc := enc) (C := Try.checked) false ⟨#[], #[.agg #[(.int .i16 0), (.slice none 0 0)], .agg #[(.int .i16 0), (.int .i16 0)]], []⟩ 8 (by kernel_rfl) (by kernel_rfl) (by kernel_rfl) (by kernel_rfl)) ?_
  intro W base args ds gs before hval0 hW hcnd hsz0 _
  have hsz : (DataW.weightsEach Try.prog (Try.f10.params.toList ++ Rows.fnExactGoesToSpec.plain.varTypes Try.prog) (ds ++ gs)).all (· ≤ reachBytes) = true := hsz0
  have hval : ∀ (j : Nat) t v, Try.f10.params[j]? = some t → args[j]? = some v → Value.okWide Try.prog W .any base t v := hval0
  have hW' := hW
  obtain ⟨p, q, hA0, hV, rfl, hfz, hnd⟩ := hW
  have hA : DataW.TrodAll enc Try.prog W 0 (fun _ => true) true Try.f10.params.toList args.toList ds p := hA0
  rw [Try.params10] at hA hval hsz
  obtain ⟨v0, vs0, d0, ds0, p0, q0, hargs, rfl, rfl, h0, r0⟩ := trodAll_cons hA
  obtain ⟨v1, vs1, d1, ds1, p1, q1, rfl, rfl, rfl, h1, r1⟩ := trodAll_cons r0
  obtain ⟨rfl, rfl, rfl⟩ := trodAll_nil r1
  obtain rfl : args = #[v0, v1] := by cases args; simp_all
  obtain ⟨rfl, rfl⟩ := trodVars_none hV
  have k0 := h0
  have lt0 : ∀ x ∈ p0, x.block < W.heap.size := by obtain ⟨m, hm⟩ := k0; exact DataW.trod_lt m _ _ _ hm
  obtain ⟨y0, K0, g0⟩ := Dec.arg (dec_S38 enc W) hsz (j := 0) (t := 38) rfl rfl h0
  obtain ⟨⟨cs0⟩, rfl, hn0⟩ := okWide_struct Try.underlying38 (hval 0 38 v0 rfl rfl)
  have K0' : k38.K W y0 cs0 := K0
  obtain ⟨A0_1, c0_1, rfl, hc0_1, hr0_1⟩ := k38_open K0'
  have k1 := h1
  have lt1 : ∀ x ∈ p1, x.block < W.heap.size := by obtain ⟨m, hm⟩ := k1; exact DataW.trod_lt m _ _ _ hm
  obtain ⟨y1, K1, g1⟩ := Dec.arg (dec_S68 enc W) hsz (j := 1) (t := 68) rfl rfl h1
  obtain ⟨⟨cs1⟩, rfl, hn1⟩ := okWide_struct Try.underlying68 (hval 1 68 v1 rfl rfl)
  have K1' : k68.K W y1 cs1 := K1
  obtain rfl := k68_open K1'
  clear hA0 hval0 hsz0 hsz
  refine (XFnExactGoesTo.laws_FnExactGoesTo.walk Pure.FnExactGoesTo y0.f0 _ _ y0.f1 y1.f0 y1.f1 W hr0_1 hc0_1 g0.1 g0.2 g1.1 g1.2).mono fun e W' ⟨he, bel⟩ => ?_
  subst he
  exact ⟨_, rfl, _, _, _, [], _, [], hW', trodAll_mk1 (shut_bool Try.underlying4 _), (trodAll_cons_mk (Below.trod laidOut (by kernel_rfl) (of_decide_eq_true (by kernel_rfl)) k0 bel lt0) (trodAll_cons_mk (Below.trod laidOut (by kernel_rfl) (of_decide_eq_true (by kernel_rfl)) k1 bel lt1) trodAll_mk0)), rfl, bel.frame _, fun h => by cases h⟩
theorem over : Rows.fnExactGoesToRow.holds Try.pinned (OpenSpec.ofChange Rows.fnExactGoesToSpec) :=
  OpenClaim.holds_of_wide 10 Try.f10 rfl rfl rfl rfl rfl rfl rfl ⟨rfl, rfl, rfl, rfl, rfl⟩ rfl rfl rfl rfl rfl (by kernel_rfl) Try.func10 (by kernel_rfl)
    (of_decide_eq_true (by kernel_rfl)) (by unfold Func.isWrapper; first | (rw [if_pos (by decide +kernel)]; kernel_rfl) | (rw [if_neg (by decide +kernel)]; exact ⟨rfl, rfl⟩))
    (fun os started H enc _ => lifted os started H enc)
theorem proved : Rows.FnExactGoesToSaid := over
end Go.Proofs.Ytejpdeaeflmmpaa.fnExactGoesTo
namespace Go.Proofs.Ytejpdeaeflmmpaa
/-- The row, under a short name, for the claim. -/
theorem fnExactGoesTo_holds : Rows.FnExactGoesToSaid := fnExactGoesTo.proved
end Go.Proofs.Ytejpdeaeflmmpaa
