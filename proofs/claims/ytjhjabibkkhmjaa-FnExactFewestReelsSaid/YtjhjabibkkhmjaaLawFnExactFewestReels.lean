/- The statement Rows.FnExactFewestReelsSaid: for every input the law FnExactFewestReels returns true and every argument reads afterwards as it read before; no conditions. -/
import Derived.Test.YtjhjabibkkhmjaaRows
import Derived.Test.YtjhjabibkkhmjaaXFnExactFewestReelsx7
import Derived.Test.YtjhjabibkkhmjaaPureFnExactFewestReels
import Derived.Test.YtjhjabibkkhmjaaXOpen
import Derived.WalkKit
import Derived.ProofKit
import Derived.OpenShut
import Derived.ShutString
import Derived.ChangeOld
import Derived.Below
import Derived.SizedLaws
namespace Go.Proofs.Ytjhjabibkkhmjaa.fnExactFewestReels
open Go.ChangeShapes Go.WideShapes Go.ChangeAt Go.RowKit Go.Proofs.YtjhjabibkkhmjaaX Go.Proofs.Ytjhjabibkkhmjaa.XFnExactFewestReels Go.Proofs.YtjhjabibkkhmjaaW.PrintWords
open Go.ChangeMaps (open_string shut_string)
set_option linter.unusedVariables false
theorem own : ownKnob Try.prog.godebug = none := by kernel_rfl
theorem laidOut : laidOutB Try.prog = true := by kernel_rfl
theorem dec_S63 {H : Type} (enc : TypeId × Value → H) (W : World) : Dec enc Try.prog W 63 k63 (fun x : S63 => ((Lit.int .u8 x.f0).wf = true ∧ (Lit.int .u8 x.f1).wf = true ∧ (Lit.int .u8 x.f2).wf = true ∧ (Lit.int .u8 x.f3).wf = true ∧ (Lit.int .u8 x.f4).wf = true ∧ (Lit.int .u8 x.f5).wf = true)) := by
  intro n cs x h hw
  have hua : Try.prog.underlying 63 = some (.array 6 5) := by kernel_rfl
  obtain ⟨xs, m, _, hx, hcl, hxl, hf0⟩ := DataW.trod_array hua h
  have hc : Try.prog.cellsOf 63 = 6 := by kernel_rfl
  have hc1 : Try.prog.cellsOf 5 = 1 := by kernel_rfl
  rw [hc] at hcl
  obtain ⟨c0, c1, c2, c3, c4, c5, rfl⟩ := list6 hcl
  obtain ⟨y0, y1, y2, y3, y4, y5, rfl⟩ := list6 (show xs.length = 6 from hxl)
  subst hx
  have h0 : DataW.trod enc Try.prog W 0 (fun _ => true) true m 5 [c0] = some y0 := by have z := hf0 0 (by decide); rw [hc1] at z; simpa only [Nat.mul_one, List.drop_succ_cons, List.drop_zero, List.take_succ_cons, List.take_zero, List.getElem?_cons_succ, List.getElem?_cons_zero] using z
  obtain ⟨v0, k0_, g0⟩ := (Dec.int Try.underlying5) _ _ _ h0 (fun q hq => hw q (by show q ∈ DataW.weights _ _ (DataW.agg _); rw [weights_arr hua]; exact weights_all (List.mem_map.2 ⟨y0, .head _, rfl⟩) q hq))
  have h1 : DataW.trod enc Try.prog W 0 (fun _ => true) true m 5 [c1] = some y1 := by have z := hf0 1 (by decide); rw [hc1] at z; simpa only [Nat.mul_one, List.drop_succ_cons, List.drop_zero, List.take_succ_cons, List.take_zero, List.getElem?_cons_succ, List.getElem?_cons_zero] using z
  obtain ⟨v1, k1_, g1⟩ := (Dec.int Try.underlying5) _ _ _ h1 (fun q hq => hw q (by show q ∈ DataW.weights _ _ (DataW.agg _); rw [weights_arr hua]; exact weights_all (List.mem_map.2 ⟨y1, .tail _ (.head _), rfl⟩) q hq))
  have h2 : DataW.trod enc Try.prog W 0 (fun _ => true) true m 5 [c2] = some y2 := by have z := hf0 2 (by decide); rw [hc1] at z; simpa only [Nat.mul_one, List.drop_succ_cons, List.drop_zero, List.take_succ_cons, List.take_zero, List.getElem?_cons_succ, List.getElem?_cons_zero] using z
  obtain ⟨v2, k2_, g2⟩ := (Dec.int Try.underlying5) _ _ _ h2 (fun q hq => hw q (by show q ∈ DataW.weights _ _ (DataW.agg _); rw [weights_arr hua]; exact weights_all (List.mem_map.2 ⟨y2, .tail _ (.tail _ (.head _)), rfl⟩) q hq))
  have h3 : DataW.trod enc Try.prog W 0 (fun _ => true) true m 5 [c3] = some y3 := by have z := hf0 3 (by decide); rw [hc1] at z; simpa only [Nat.mul_one, List.drop_succ_cons, List.drop_zero, List.take_succ_cons, List.take_zero, List.getElem?_cons_succ, List.getElem?_cons_zero] using z
  obtain ⟨v3, k3_, g3⟩ := (Dec.int Try.underlying5) _ _ _ h3 (fun q hq => hw q (by show q ∈ DataW.weights _ _ (DataW.agg _); rw [weights_arr hua]; exact weights_all (List.mem_map.2 ⟨y3, .tail _ (.tail _ (.tail _ (.head _))), rfl⟩) q hq))
  have h4 : DataW.trod enc Try.prog W 0 (fun _ => true) true m 5 [c4] = some y4 := by have z := hf0 4 (by decide); rw [hc1] at z; simpa only [Nat.mul_one, List.drop_succ_cons, List.drop_zero, List.take_succ_cons, List.take_zero, List.getElem?_cons_succ, List.getElem?_cons_zero] using z
  obtain ⟨v4, k4_, g4⟩ := (Dec.int Try.underlying5) _ _ _ h4 (fun q hq => hw q (by show q ∈ DataW.weights _ _ (DataW.agg _); rw [weights_arr hua]; exact weights_all (List.mem_map.2 ⟨y4, .tail _ (.tail _ (.tail _ (.tail _ (.head _)))), rfl⟩) q hq))
  have h5 : DataW.trod enc Try.prog W 0 (fun _ => true) true m 5 [c5] = some y5 := by have z := hf0 5 (by decide); rw [hc1] at z; simpa only [Nat.mul_one, List.drop_succ_cons, List.drop_zero, List.take_succ_cons, List.take_zero, List.getElem?_cons_succ, List.getElem?_cons_zero] using z
  obtain ⟨v5, k5_, g5⟩ := (Dec.int Try.underlying5) _ _ _ h5 (fun q hq => hw q (by show q ∈ DataW.weights _ _ (DataW.agg _); rw [weights_arr hua]; exact weights_all (List.mem_map.2 ⟨y5, .tail _ (.tail _ (.tail _ (.tail _ (.tail _ (.head _))))), rfl⟩) q hq))
  exact ⟨⟨v0, v1, v2, v3, v4, v5⟩, ⟨[c0], [c1, c2, c3, c4, c5], rfl, k0_, ⟨[c1], [c2, c3, c4, c5], rfl, k1_, ⟨[c2], [c3, c4, c5], rfl, k2_, ⟨[c3], [c4, c5], rfl, k3_, ⟨[c4], [c5], rfl, k4_, k5_⟩⟩⟩⟩⟩, ⟨g0, g1, g2, g3, g4, g5⟩⟩
theorem dec_S161 {H : Type} (enc : TypeId × Value → H) (W : World) : Dec enc Try.prog W 161 k161 (fun x : S161 => ((Lit.int .i16 x.f0).wf = true ∧ (Lit.int .u8 x.f1).wf = true)) := by
  intro n cs x h hw
  obtain ⟨xs, m, _, hx, hcl, hxl, hf⟩ := DataW.trod_struct Try.underlying161 h
  have hc : Try.prog.cellsOf 161 = 2 := by kernel_rfl
  rw [hc] at hcl
  obtain ⟨c0, c1, rfl⟩ := list2 hcl
  obtain ⟨y0, y1, rfl⟩ := list2 (show xs.length = 2 from hxl)
  subst hx
  have h0 : DataW.trod enc Try.prog W 0 (fun _ => true) true m 52 [c0] = some y0 := by (have z : DataW.trod enc Try.prog W 0 (fun _ => true) true m 52 (([c0, c1].drop 0).take (Try.prog.cellsOf 52)) = some y0 := hf 0 _ rfl; have hz : Try.prog.cellsOf 52 = 1 := (by kernel_rfl); rw [hz] at z; exact z)
  obtain ⟨v0, k0_, g0⟩ := (Dec.int Try.underlying52) _ _ _ h0 (fun q hq => hw q (by simp only [DataW.weights, Try.underlying161]; exact weights_each (j := 0) rfl rfl q hq))
  have h1 : DataW.trod enc Try.prog W 0 (fun _ => true) true m 5 [c1] = some y1 := by (have z : DataW.trod enc Try.prog W 0 (fun _ => true) true m 5 (([c0, c1].drop 1).take (Try.prog.cellsOf 5)) = some y1 := hf 1 _ rfl; have hz : Try.prog.cellsOf 5 = 1 := (by kernel_rfl); rw [hz] at z; exact z)
  obtain ⟨v1, k1_, g1⟩ := (Dec.int Try.underlying5) _ _ _ h1 (fun q hq => hw q (by simp only [DataW.weights, Try.underlying161]; exact weights_each (j := 1) rfl rfl q hq))
  exact ⟨⟨v0, v1⟩, ⟨[c0], [c1], rfl, k0_, k1_⟩, ⟨g0, g1⟩⟩
set_option maxRecDepth 100000 in
theorem lifted (os : Os) (started : os.Started) (H : Type) (enc : TypeId × Value → H) :
    ReturnsInHanded {} Try.checked os 8 .any (Rows.fnExactFewestReelsSpec.pre6 enc Try.prog Try.f8 Rows.fnExactFewestReelsRow.domain false) (Rows.fnExactFewestReelsSpec.post enc Try.prog Try.f8 false true false false) := by
  refine returnsInHanded_of_change_sized (C := Try.checked) own started (by kernel_rfl) Try.func8
    (ChangeSpec.witness6 (enc := enc) (C := Try.checked) false ⟨#[], #[.agg #[(.int .u8 0), (.int .u8 0), (.int .u8 0), (.int .u8 0), (.int .u8 0), (.int .u8 0)], .int .i64 0, .slice none 0 0, .int .i64 0], []⟩ 8 (by kernel_rfl) (by kernel_rfl) (by kernel_rfl) (by kernel_rfl)) ?_
  intro W base args ds gs before hval0 hW hcnd hsz0 _
  have hsz : (DataW.weightsEach Try.prog (Try.f8.params.toList ++ Rows.fnExactFewestReelsSpec.plain.varTypes Try.prog) (ds ++ gs)).all (· ≤ reachBytes) = true := hsz0
  have hval : ∀ (j : Nat) t v, Try.f8.params[j]? = some t → args[j]? = some v → Value.okWide Try.prog W .any base t v := hval0
  have hW' := hW
  obtain ⟨p, q, hA0, hV, rfl, hfz, hnd⟩ := hW
  have hA : DataW.TrodAll enc Try.prog W 0 (fun _ => true) true Try.f8.params.toList args.toList ds p := hA0
  rw [Try.params8] at hA hval hsz
  obtain ⟨v0, vs0, d0, ds0, p0, q0, hargs, rfl, rfl, h0, r0⟩ := trodAll_cons hA
  obtain ⟨v1, vs1, d1, ds1, p1, q1, rfl, rfl, rfl, h1, r1⟩ := trodAll_cons r0
  obtain ⟨v2, vs2, d2, ds2, p2, q2, rfl, rfl, rfl, h2, r2⟩ := trodAll_cons r1
  obtain ⟨v3, vs3, d3, ds3, p3, q3, rfl, rfl, rfl, h3, r3⟩ := trodAll_cons r2
  obtain ⟨rfl, rfl, rfl⟩ := trodAll_nil r3
  obtain rfl : args = #[v0, v1, v2, v3] := by cases args; simp_all
  obtain ⟨rfl, rfl⟩ := trodVars_none hV
  have k0 := h0
  have lt0 : ∀ x ∈ p0, x.block < W.heap.size := by obtain ⟨m, hm⟩ := k0; exact DataW.trod_lt m _ _ _ hm
  obtain ⟨y0, K0, g0⟩ := Dec.arg (dec_S63 enc W) hsz (j := 0) (t := 63) rfl rfl h0
  obtain ⟨⟨cs0⟩, rfl, hn0⟩ := okWide_array Try.underlying63 (hval 0 63 v0 rfl rfl)
  have K0' : k63.K W y0 cs0 := K0
  obtain rfl := k63_open K0'
  obtain ⟨a1, rfl, rfl, rfl, w1⟩ := open_int Try.underlying2 (hval 1 2 v1 rfl rfl) h1
  have k2 := h2
  have lt2 : ∀ x ∈ p2, x.block < W.heap.size := by obtain ⟨m, hm⟩ := k2; exact DataW.trod_lt m _ _ _ hm
  obtain ⟨y2, K2, g2⟩ := Dec.arg (Dec.slice (B := 4) Try.underlying64 (by kernel_rfl) (by kernel_rfl) (dec_S161 enc W)) hsz (j := 2) (t := 64) rfl rfl h2
  obtain ⟨a2, len2, cap2, rfl⟩ := okWide_slice Try.underlying64 (hval 2 64 v2 rfl rfl)
  obtain ⟨A2, c2, he2, hc2, hr2⟩ := K2
  simp only [Value.cells, List.cons.injEq, Value.slice.injEq, and_true] at he2
  obtain ⟨rfl, rfl, rfl⟩ := he2
  obtain ⟨a3, rfl, rfl, rfl, w3⟩ := open_int Try.underlying2 (hval 3 2 v3 rfl rfl) h3
  clear hA0 hval0 hsz0 hsz
  refine (XFnExactFewestReels.laws_FnExactFewestReels.walk Pure.FnExactFewestReels y0.f0 y0.f1 y0.f2 y0.f3 y0.f4 y0.f5 a1 _ _ y2 a3 W hr2 hc2 g0.1 g0.2.1 g0.2.2.1 g0.2.2.2.1 g0.2.2.2.2.1 g0.2.2.2.2.2 w1 g2 w3).mono fun e W' ⟨he, bel⟩ => ?_
  subst he
  exact ⟨_, rfl, _, _, _, [], _, [], hW', trodAll_mk1 (shut_bool Try.underlying4 _), (trodAll_cons_mk (Below.trod laidOut (by kernel_rfl) (of_decide_eq_true (by kernel_rfl)) k0 bel lt0) (trodAll_cons_mk (shut_int Try.underlying2 w1) (trodAll_cons_mk (Below.trod laidOut (by kernel_rfl) (of_decide_eq_true (by kernel_rfl)) k2 bel lt2) (trodAll_cons_mk (shut_int Try.underlying2 w3) trodAll_mk0)))), rfl, bel.frame _, fun h => by cases h⟩
theorem over : Rows.fnExactFewestReelsRow.holds Try.pinned (OpenSpec.ofChange Rows.fnExactFewestReelsSpec) :=
  OpenClaim.holds_of_wide 8 Try.f8 rfl rfl rfl rfl rfl rfl rfl ⟨rfl, rfl, rfl, rfl, rfl⟩ rfl rfl rfl rfl rfl (by kernel_rfl) Try.func8 (by kernel_rfl)
    (of_decide_eq_true (by kernel_rfl)) (by unfold Func.isWrapper; first | (rw [if_pos (by decide +kernel)]; kernel_rfl) | (rw [if_neg (by decide +kernel)]; exact ⟨rfl, rfl⟩))
    (fun os started H enc _ => lifted os started H enc)
theorem proved : Rows.FnExactFewestReelsSaid := over
end Go.Proofs.Ytjhjabibkkhmjaa.fnExactFewestReels
namespace Go.Proofs.Ytjhjabibkkhmjaa
/-- The row, under a short name, for the claim. -/
theorem fnExactFewestReels_holds : Rows.FnExactFewestReelsSaid := fnExactFewestReels.proved
end Go.Proofs.Ytjhjabibkkhmjaa
