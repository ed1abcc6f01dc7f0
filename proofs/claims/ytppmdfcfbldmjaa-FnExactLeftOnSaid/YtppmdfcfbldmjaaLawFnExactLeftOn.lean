/- The statement Rows.FnExactLeftOnSaid: for every input the law FnExactLeftOn returns true and every argument reads afterwards as it read before; no conditions. -/
import Derived.Test.YtppmdfcfbldmjaaRows
import Derived.Test.YtppmdfcfbldmjaaXFnExactLeftOnx6
import Derived.Test.YtppmdfcfbldmjaaPureFnExactLeftOn
import Derived.Test.YtppmdfcfbldmjaaXOpen
import Derived.WalkKit
import Derived.ProofKit
import Derived.OpenShut
import Derived.ShutString
import Derived.ChangeOld
import Derived.Below
import Derived.SizedLaws
namespace Go.Proofs.Ytppmdfcfbldmjaa.fnExactLeftOn
open Go.ChangeShapes Go.WideShapes Go.ChangeAt Go.RowKit Go.Proofs.YtppmdfcfbldmjaaX Go.Proofs.Ytppmdfcfbldmjaa.XFnExactLeftOn Go.Proofs.YtppmdfcfbldmjaaW.PrintWords
open Go.ChangeMaps (open_string shut_string)
set_option linter.unusedVariables false
theorem own : ownKnob Try.prog.godebug = none := by kernel_rfl
theorem laidOut : laidOutB Try.prog = true := by kernel_rfl
theorem dec_S107 {H : Type} (enc : TypeId × Value → H) (W : World) : Dec enc Try.prog W 107 k107 (fun x : S107 => ((Lit.int .i16 x.f0).wf = true ∧ (Lit.int .u8 x.f1).wf = true)) := by
  intro n cs x h hw
  obtain ⟨xs, m, _, hx, hcl, hxl, hf⟩ := DataW.trod_struct Try.underlying107 h
  have hc : Try.prog.cellsOf 107 = 2 := by kernel_rfl
  rw [hc] at hcl
  obtain ⟨c0, c1, rfl⟩ := list2 hcl
  obtain ⟨y0, y1, rfl⟩ := list2 (show xs.length = 2 from hxl)
  subst hx
  have h0 : DataW.trod enc Try.prog W 0 (fun _ => true) true m 32 [c0] = some y0 := by (have z : DataW.trod enc Try.prog W 0 (fun _ => true) true m 32 (([c0, c1].drop 0).take (Try.prog.cellsOf 32)) = some y0 := hf 0 _ rfl; have hz : Try.prog.cellsOf 32 = 1 := (by kernel_rfl); rw [hz] at z; exact z)
  obtain ⟨v0, k0_, g0⟩ := (Dec.int Try.underlying32) _ _ _ h0 (fun q hq => hw q (by simp only [DataW.weights, Try.underlying107]; exact weights_each (j := 0) rfl rfl q hq))
  have h1 : DataW.trod enc Try.prog W 0 (fun _ => true) true m 5 [c1] = some y1 := by (have z : DataW.trod enc Try.prog W 0 (fun _ => true) true m 5 (([c0, c1].drop 1).take (Try.prog.cellsOf 5)) = some y1 := hf 1 _ rfl; have hz : Try.prog.cellsOf 5 = 1 := (by kernel_rfl); rw [hz] at z; exact z)
  obtain ⟨v1, k1_, g1⟩ := (Dec.int Try.underlying5) _ _ _ h1 (fun q hq => hw q (by simp only [DataW.weights, Try.underlying107]; exact weights_each (j := 1) rfl rfl q hq))
  exact ⟨⟨v0, v1⟩, ⟨[c0], [c1], rfl, k0_, k1_⟩, ⟨g0, g1⟩⟩
set_option maxRecDepth 100000 in
theorem lifted (os : Os) (started : os.Started) (H : Type) (enc : TypeId × Value → H) :
    ReturnsInHanded {} Try.checked os 11 .any (Rows.fnExactLeftOnSpec.pre6 enc Try.prog Try.f11 Rows.fnExactLeftOnRow.domain false) (Rows.fnExactLeftOnSpec.post enc Try.prog Try.f11 false true false false) := by
  refine returnsInHanded_of_change_sized (C := Try.checked) own started (by kernel_rfl) Try.func11
    (ChangeSpec.witness6 (enc := enc) (C := Try.checked) false ⟨#[], #[.int .i64 0, .slice none 0 0, .slice none 0 0], []⟩ 8 (by kernel_rfl) (by kernel_rfl) (by kernel_rfl) (by kernel_rfl)) ?_
  intro W base args ds gs before hval0 hW hcnd hsz0 _
  have hsz : (DataW.weightsEach Try.prog (Try.f11.params.toList ++ Rows.fnExactLeftOnSpec.plain.varTypes Try.prog) (ds ++ gs)).all (· ≤ reachBytes) = true := hsz0
  have hval : ∀ (j : Nat) t v, Try.f11.params[j]? = some t → args[j]? = some v → Value.okWide Try.prog W .any base t v := hval0
  have hW' := hW
  obtain ⟨p, q, hA0, hV, rfl, hfz, hnd⟩ := hW
  have hA : DataW.TrodAll enc Try.prog W 0 (fun _ => true) true Try.f11.params.toList args.toList ds p := hA0
  rw [Try.params11] at hA hval hsz
  obtain ⟨v0, vs0, d0, ds0, p0, q0, hargs, rfl, rfl, h0, r0⟩ := trodAll_cons hA
  obtain ⟨v1, vs1, d1, ds1, p1, q1, rfl, rfl, rfl, h1, r1⟩ := trodAll_cons r0
  obtain ⟨v2, vs2, d2, ds2, p2, q2, rfl, rfl, rfl, h2, r2⟩ := trodAll_cons r1
  obtain ⟨rfl, rfl, rfl⟩ := trodAll_nil r2
  obtain rfl : args = #[v0, v1, v2] := by cases args; simp_all
  obtain ⟨rfl, rfl⟩ := trodVars_none hV
  obtain ⟨a0, rfl, rfl, rfl, w0⟩ := open_int Try.underlying2 (hval 0 2 v0 rfl rfl) h0
  have k1 := h1
  have lt1 : ∀ x ∈ p1, x.block < W.heap.size := by obtain ⟨m, hm⟩ := k1; exact DataW.trod_lt m _ _ _ hm
  obtain ⟨y1, K1, g1⟩ := Dec.arg (Dec.slice (B := 4) Try.underlying54 (by kernel_rfl) (by kernel_rfl) (dec_S107 enc W)) hsz (j := 1) (t := 54) rfl rfl h1
  obtain ⟨a1, len1, cap1, rfl⟩ := okWide_slice Try.underlying54 (hval 1 54 v1 rfl rfl)
  obtain ⟨A1, c1, he1, hc1, hr1⟩ := K1
  simp only [Value.cells, List.cons.injEq, Value.slice.injEq, and_true] at he1
  obtain ⟨rfl, rfl, rfl⟩ := he1
  have k2 := h2
  have lt2 : ∀ x ∈ p2, x.block < W.heap.size := by obtain ⟨m, hm⟩ := k2; exact DataW.trod_lt m _ _ _ hm
  obtain ⟨y2, K2, g2⟩ := Dec.arg (Dec.slice (B := 8) Try.underlying72 (by kernel_rfl) (by kernel_rfl) (Dec.int Try.underlying2)) hsz (j := 2) (t := 72) rfl rfl h2
  obtain ⟨a2, len2, cap2, rfl⟩ := okWide_slice Try.underlying72 (hval 2 72 v2 rfl rfl)
  obtain ⟨A2, c2, he2, hc2, hr2⟩ := K2
  simp only [Value.cells, List.cons.injEq, Value.slice.injEq, and_true] at he2
  obtain ⟨rfl, rfl, rfl⟩ := he2
  clear hA0 hval0 hsz0 hsz
  refine (XFnExactLeftOn.laws_FnExactLeftOn.walk Pure.FnExactLeftOn a0 _ _ y1 _ _ y2 W hr1 hc1 hr2 hc2 w0 g1 g2).mono fun e W' ⟨he, bel⟩ => ?_
  subst he
  exact ⟨_, rfl, _, _, _, [], _, [], hW', trodAll_mk1 (shut_bool Try.underlying4 _), (trodAll_cons_mk (shut_int Try.underlying2 w0) (trodAll_cons_mk (Below.trod laidOut (by kernel_rfl) (of_decide_eq_true (by kernel_rfl)) k1 bel lt1) (trodAll_cons_mk (Below.trod laidOut (by kernel_rfl) (of_decide_eq_true (by kernel_rfl)) k2 bel lt2) trodAll_mk0))), rfl, bel.frame _, fun h => by cases h⟩
theorem over : Rows.fnExactLeftOnRow.holds Try.pinned (OpenSpec.ofChange Rows.fnExactLeftOnSpec) :=
  OpenClaim.holds_of_wide 11 Try.f11 rfl rfl rfl rfl rfl rfl rfl ⟨rfl, rfl, rfl, rfl, rfl⟩ rfl rfl rfl rfl rfl (by kernel_rfl) Try.func11 (by kernel_rfl)
    (of_decide_eq_true (by kernel_rfl)) (by unfold Func.isWrapper; first | (rw [if_pos (by decide +kernel)]; kernel_rfl) | (rw [if_neg (by decide +kernel)]; exact ⟨rfl, rfl⟩))
    (fun os started H enc _ => lifted os started H enc)
theorem proved : Rows.FnExactLeftOnSaid := over
end Go.Proofs.Ytppmdfcfbldmjaa.fnExactLeftOn
namespace Go.Proofs.Ytppmdfcfbldmjaa
/-- The row, under a short name, for the claim. -/
theorem fnExactLeftOn_holds : Rows.FnExactLeftOnSaid := fnExactLeftOn.proved
end Go.Proofs.Ytppmdfcfbldmjaa
