/- The statement Rows.FnExactRepeatRowSaid: for every input the law FnExactRepeatRow returns true and every argument reads afterwards as it read before; no conditions. -/
import Derived.Test.YtjhafhejdlmcmaaRows
import Derived.Test.YtjhafhejdlmcmaaXFnExactRepeatRowx5
import Derived.Test.YtjhafhejdlmcmaaPureFnExactRepeatRow
import Derived.Test.YtjhafhejdlmcmaaXOpen
import Derived.WalkKit
import Derived.ProofKit
import Derived.OpenShut
import Derived.ShutString
import Derived.ChangeOld
import Derived.Below
import Derived.SizedLaws
namespace Go.Proofs.Ytjhafhejdlmcmaa.fnExactRepeatRow
open Go.ChangeShapes Go.WideShapes Go.ChangeAt Go.RowKit Go.Proofs.YtjhafhejdlmcmaaX Go.Proofs.Ytjhafhejdlmcmaa.XFnExactRepeatRow Go.Proofs.YtjhafhejdlmcmaaW.PrintWords
open Go.ChangeMaps (open_string shut_string)
set_option linter.unusedVariables false
theorem own : ownKnob Try.prog.godebug = none := by kernel_rfl
theorem laidOut : laidOutB Try.prog = true := by kernel_rfl
theorem dec_S52 {H : Type} (enc : TypeId × Value → H) (W : World) : Dec enc Try.prog W 52 k52 (fun x : S52 => ((Lit.int .i16 x.f0).wf = true ∧ (x.f1.length * 16 ≤ 140737488351232 ∧ ∀ x_ ∈ x.f1, x_.size ≤ 140737488351232))) := by
  intro n cs x h hw
  obtain ⟨xs, m, _, hx, hcl, hxl, hf⟩ := DataW.trod_struct Try.underlying52 h
  have hc : Try.prog.cellsOf 52 = 2 := by kernel_rfl
  rw [hc] at hcl
  obtain ⟨c0, c1, rfl⟩ := list2 hcl
  obtain ⟨y0, y1, rfl⟩ := list2 (show xs.length = 2 from hxl)
  subst hx
  have h0 : DataW.trod enc Try.prog W 0 (fun _ => true) true m 49 [c0] = some y0 := by (have z : DataW.trod enc Try.prog W 0 (fun _ => true) true m 49 (([c0, c1].drop 0).take (Try.prog.cellsOf 49)) = some y0 := hf 0 _ rfl; have hz : Try.prog.cellsOf 49 = 1 := (by kernel_rfl); rw [hz] at z; exact z)
  obtain ⟨v0, k0_, g0⟩ := (Dec.int Try.underlying49) _ _ _ h0 (fun q hq => hw q (by simp only [DataW.weights, Try.underlying52]; exact weights_each (j := 0) rfl rfl q hq))
  have h1 : DataW.trod enc Try.prog W 0 (fun _ => true) true m 50 [c1] = some y1 := by (have z : DataW.trod enc Try.prog W 0 (fun _ => true) true m 50 (([c0, c1].drop 1).take (Try.prog.cellsOf 50)) = some y1 := hf 1 _ rfl; have hz : Try.prog.cellsOf 50 = 1 := (by kernel_rfl); rw [hz] at z; exact z)
  obtain ⟨v1, k1_, g1⟩ := (Dec.slice (B := 16) Try.underlying50 (by kernel_rfl) (by kernel_rfl) (Dec.string Try.underlying9)) _ _ _ h1 (fun q hq => hw q (by simp only [DataW.weights, Try.underlying52]; exact weights_each (j := 1) rfl rfl q hq))
  exact ⟨⟨v0, v1⟩, ⟨[c0], [c1], rfl, k0_, k1_⟩, ⟨g0, g1⟩⟩
set_option maxRecDepth 100000 in
theorem lifted (os : Os) (started : os.Started) (H : Type) (enc : TypeId × Value → H) :
    ReturnsInHanded {} Try.checked os 8 .any (Rows.fnExactRepeatRowSpec.pre6 enc Try.prog Try.f8 Rows.fnExactRepeatRowRow.domain false) (Rows.fnExactRepeatRowSpec.post enc Try.prog Try.f8 false true false false) := by
  refine returnsInHanded_of_change_sized (C := Try.checked) own started (by kernel_rfl) Try.func8
    (ChangeSpec.witness6 (enc := enc) (C := Try.checked) false ⟨#[], #[.agg #[(.int .i16 0), (.slice none 0 0)], .string ByteArray.empty], []⟩ 8 (by kernel_rfl) (by kernel_rfl) (by kernel_rfl) (by kernel_rfl)) ?_
  intro W base args ds gs before hval0 hW hcnd hsz0 _
  have hsz : (DataW.weightsEach Try.prog (Try.f8.params.toList ++ Rows.fnExactRepeatRowSpec.plain.varTypes Try.prog) (ds ++ gs)).all (· ≤ reachBytes) = true := hsz0
  have hval : ∀ (j : Nat) t v, Try.f8.params[j]? = some t → args[j]? = some v → Value.okWide Try.prog W .any base t v := hval0
  have hW' := hW
  obtain ⟨p, q, hA0, hV, rfl, hfz, hnd⟩ := hW
  have hA : DataW.TrodAll enc Try.prog W 0 (fun _ => true) true Try.f8.params.toList args.toList ds p := hA0
  rw [Try.params8] at hA hval hsz
  obtain ⟨v0, vs0, d0, ds0, p0, q0, hargs, rfl, rfl, h0, r0⟩ := trodAll_cons hA
  obtain ⟨v1, vs1, d1, ds1, p1, q1, rfl, rfl, rfl, h1, r1⟩ := trodAll_cons r0
  obtain ⟨rfl, rfl, rfl⟩ := trodAll_nil r1
  obtain rfl : args = #[v0, v1] := by cases args; simp_all
  obtain ⟨rfl, rfl⟩ := trodVars_none hV
  have k0 := h0
  have lt0 : ∀ x ∈ p0, x.block < W.heap.size := by obtain ⟨m, hm⟩ := k0; exact DataW.trod_lt m _ _ _ hm
  obtain ⟨y0, K0, g0⟩ := Dec.arg (dec_S52 enc W) hsz (j := 0) (t := 52) rfl rfl h0
  obtain ⟨⟨cs0⟩, rfl, hn0⟩ := okWide_struct Try.underlying52 (hval 0 52 v0 rfl rfl)
  have K0' : k52.K W y0 cs0 := K0
  obtain ⟨A0_1, c0_1, rfl, hc0_1, hr0_1⟩ := k52_open K0'
  obtain ⟨a1, rfl, rfl, rfl, y1⟩ := open_string Try.underlying9 (hval 1 9 v1 rfl rfl) h1
  have w1 : a1.size ≤ 140737488351232 := by
    have z := sized_string hsz (j := 1) (t := 9) rfl rfl
    rw [Array.length_toList] at z
    exact z
  clear hA0 hval0 hsz0 hsz
  refine (XFnExactRepeatRow.laws_FnExactRepeatRow.walk Pure.FnExactRepeatRow y0.f0 _ _ y0.f1 a1 W hr0_1 hc0_1 g0.1 g0.2 w1).mono fun e W' ⟨he, bel⟩ => ?_
  subst he
  exact ⟨_, rfl, _, _, _, [], _, [], hW', trodAll_mk1 (shut_bool Try.underlying4 _), (trodAll_cons_mk (Below.trod laidOut (by kernel_rfl) (of_decide_eq_true (by kernel_rfl)) k0 bel lt0) (trodAll_cons_mk (shut_string Try.underlying9 y1) trodAll_mk0)), rfl, bel.frame _, fun h => by cases h⟩
theorem over : Rows.fnExactRepeatRowRow.holds Try.pinned (OpenSpec.ofChange Rows.fnExactRepeatRowSpec) :=
  OpenClaim.holds_of_wide 8 Try.f8 rfl rfl rfl rfl rfl rfl rfl ⟨rfl, rfl, rfl, rfl, rfl⟩ rfl rfl rfl rfl rfl (by kernel_rfl) Try.func8 (by kernel_rfl)
    (of_decide_eq_true (by kernel_rfl)) (by unfold Func.isWrapper; first | (rw [if_pos (by decide +kernel)]; kernel_rfl) | (rw [if_neg (by decide +kernel)]; exact ⟨rfl, rfl⟩))
    (fun os started H enc _ => lifted os started H enc)
theorem proved : Rows.FnExactRepeatRowSaid := over
end Go.Proofs.Ytjhafhejdlmcmaa.fnExactRepeatRow
namespace Go.Proofs.Ytjhafhejdlmcmaa
/-- The row, under a short name, for the claim. -/
theorem fnExactRepeatRow_holds : Rows.FnExactRepeatRowSaid := fnExactRepeatRow.proved
end Go.Proofs.Ytjhafhejdlmcmaa
