/- The statement Rows.FnExactYarnsTextCardSaid: for every input the law FnExactYarnsText returns true and every argument reads afterwards as it read before; the listed package variables hold what the program's text lays (tied). -/
import Derived.Test.YtddhebmnhcilfaaDoorRows
import Derived.Test.YtddhebmnhcilfaaDoorXFnExactYarnsTextx5
import Derived.Test.YtddhebmnhcilfaaDoorPureFnExactYarnsText
import Derived.Test.YtddhebmnhcilfaaDoorXOpen
import Derived.Test.YtddhebmnhcilfaaDoorCards
import Derived.Test.YtddhebmnhcilfaaDoorTie
import Derived.PinnedBridge
import Derived.Lay
import Derived.SevenTiedAt
import Derived.Lib.LaidTab
import Derived.Stop.LaidErr
import Derived.WalkKit
import Derived.ProofKit
import Derived.OpenShut
import Derived.ShutString
import Derived.ChangeOld
import Derived.Below
import Derived.SizedLaws
namespace Go.Proofs.YtddhebmnhcilfaaDoor.fnExactYarnsText
open Go.ChangeShapes Go.WideShapes Go.ChangeAt Go.RowKit Go.Proofs.YtddhebmnhcilfaaDoorX Go.Proofs.YtddhebmnhcilfaaDoor.XFnExactYarnsText Go.Proofs.YtddhebmnhcilfaaDoorW.PrintWords
open Go.ChangeMaps (open_string shut_string)
set_option linter.unusedVariables false
theorem own : ownKnob Tryd.prog.godebug = none := by kernel_rfl
theorem laidOut : laidOutB Tryd.prog = true := by kernel_rfl
theorem dec_S66 {H : Type} (enc : TypeId × Value → H) (W : World) : Dec enc Tryd.prog W 66 k66 (fun x : S66 => ((Lit.int .i16 x.f0).wf = true ∧ (Lit.int .i16 x.f1).wf = true ∧ (Lit.int .i16 x.f2).wf = true)) := by
  intro n cs x h hw
  obtain ⟨xs, m, _, hx, hcl, hxl, hf⟩ := DataW.trod_struct Tryd.underlying66 h
  have hc : Tryd.prog.cellsOf 66 = 3 := by kernel_rfl
  rw [hc] at hcl
  obtain ⟨c0, c1, c2, rfl⟩ := list3 hcl
  obtain ⟨y0, y1, y2, rfl⟩ := list3 (show xs.length = 3 from hxl)
  subst hx
  have h0 : DataW.trod enc Tryd.prog W 0 (fun _ => true) true m 47 [c0] = some y0 := by (have z : DataW.trod enc Tryd.prog W 0 (fun _ => true) true m 47 (([c0, c1, c2].drop 0).take (Tryd.prog.cellsOf 47)) = some y0 := hf 0 _ rfl; have hz : Tryd.prog.cellsOf 47 = 1 := (by kernel_rfl); rw [hz] at z; exact z)
  obtain ⟨v0, k0_, g0⟩ := (Dec.int Tryd.underlying47) _ _ _ h0 (fun q hq => hw q (by simp only [DataW.weights, Tryd.underlying66]; exact weights_each (j := 0) rfl rfl q hq))
  have h1 : DataW.trod enc Tryd.prog W 0 (fun _ => true) true m 47 [c1] = some y1 := by (have z : DataW.trod enc Tryd.prog W 0 (fun _ => true) true m 47 (([c0, c1, c2].drop 1).take (Tryd.prog.cellsOf 47)) = some y1 := hf 1 _ rfl; have hz : Tryd.prog.cellsOf 47 = 1 := (by kernel_rfl); rw [hz] at z; exact z)
  obtain ⟨v1, k1_, g1⟩ := (Dec.int Tryd.underlying47) _ _ _ h1 (fun q hq => hw q (by simp only [DataW.weights, Tryd.underlying66]; exact weights_each (j := 1) rfl rfl q hq))
  have h2 : DataW.trod enc Tryd.prog W 0 (fun _ => true) true m 47 [c2] = some y2 := by (have z : DataW.trod enc Tryd.prog W 0 (fun _ => true) true m 47 (([c0, c1, c2].drop 2).take (Tryd.prog.cellsOf 47)) = some y2 := hf 2 _ rfl; have hz : Tryd.prog.cellsOf 47 = 1 := (by kernel_rfl); rw [hz] at z; exact z)
  obtain ⟨v2, k2_, g2⟩ := (Dec.int Tryd.underlying47) _ _ _ h2 (fun q hq => hw q (by simp only [DataW.weights, Tryd.underlying66]; exact weights_each (j := 2) rfl rfl q hq))
  exact ⟨⟨v0, v1, v2⟩, ⟨[c0], [c1, c2], rfl, k0_, ⟨[c1], [c2], rfl, k1_, k2_⟩⟩, ⟨g0, g1, g2⟩⟩
def laid : List (String × DataW Unit) := [("math/bits.deBruijn32tab", Rows.laid_math_bits_deBruijn32tab), ("math/bits.deBruijn64tab", Rows.laid_math_bits_deBruijn64tab), ("internal/strconv.uint64pow10", Rows.laid_internal_strconv_uint64pow10)]
set_option maxRecDepth 100000 in
theorem tabs_of {W : World} (h : laidMet Tryd.prog laid W) : Go.Proofs.YtddhebmnhcilfaaDoorX.Tabs W := by
  have h2 : laidMet Tryd.prog [("internal/strconv.uint64pow10", Rows.laid_internal_strconv_uint64pow10)] W := h.tail.tail
  have e : (Rows.laid_internal_strconv_uint64pow10 : DataW Unit) = Lib.tabData .u64 Lib.pow10Tab := by kernel_rfl
  rw [e] at h2
  exact Lib.tabIs_of_head (g := ((Tryd.prog.globalNamed "internal/strconv.uint64pow10").getD 0)) (t := 130) (e := 102) (n := 20) (by kernel_rfl) (by kernel_rfl) Tryd.underlying130 Tryd.underlying102 (by kernel_rfl) (by kernel_rfl) h2
set_option maxRecDepth 100000 in
theorem lifted (os : Os) (started : os.Started) (H : Type) (enc : TypeId × Value → H) :
    ReturnsInHanded {} Tryd.checked os 6 .any (fun w args => (Rows.fnExactYarnsTextSpec.pre enc Tryd.prog Tryd.f6 [] false w args ∧ laidMetH Tryd.prog laid w) ∧ sizedMet enc Tryd.prog Tryd.f6 (OpenSpec.ofChange Rows.fnExactYarnsTextSpec) false w args) (Rows.fnExactYarnsTextSpec.post enc Tryd.prog Tryd.f6 false true false false) := by
  refine returnsInHanded_of_change_and (C := Tryd.checked) (X := fun w _ => laidMetH Tryd.prog laid w) (fun _ _ _ hh h => h.of_heap hh) own started (by kernel_rfl) Tryd.func6
    (ChangeSpec.witness_shaped (enc := enc) (C := Tryd.checked) (os := os) (X := fun w _ => laidMetH Tryd.prog laid w) false (World.laidAll Tryd.prog os laid) #[.slice none 0 0] 8 (World.laidAll_os _ _ _) (World.shaped_of_ZipB (by kernel_rfl) (by kernel_rfl)) (by kernel_rfl) (by kernel_rfl) (by kernel_rfl) (by rw [MakeChecks.laidMetH_plain _ _ _ (by kernel_rfl)]; exact laidMet_laidAll _ (by kernel_rfl) (by kernel_rfl))) ?_
  intro W base args ds gs before hval0 hW hcnd hsz0 hL _
  rw [MakeChecks.laidMetH_plain _ _ _ (by kernel_rfl)] at hL
  have htab := tabs_of hL
  have hsz : (DataW.weightsEach Tryd.prog (Tryd.f6.params.toList ++ Rows.fnExactYarnsTextSpec.plain.varTypes Tryd.prog) (ds ++ gs)).all (· ≤ reachBytes) = true := hsz0
  have hval : ∀ (j : Nat) t v, Tryd.f6.params[j]? = some t → args[j]? = some v → Value.okWide Tryd.prog W .any base t v := hval0
  have hW' := hW
  obtain ⟨p, q, hA0, hV, rfl, hfz, hnd⟩ := hW
  have hA : DataW.TrodAll enc Tryd.prog W 0 (fun _ => true) true Tryd.f6.params.toList args.toList ds p := hA0
  rw [Tryd.params6] at hA hval hsz
  obtain ⟨v0, vs0, d0, ds0, p0, q0, hargs, rfl, rfl, h0, r0⟩ := trodAll_cons hA
  obtain ⟨rfl, rfl, rfl⟩ := trodAll_nil r0
  obtain rfl : args = #[v0] := by cases args; simp_all
  obtain ⟨rfl, rfl⟩ := trodVars_none hV
  have k0 := h0
  have lt0 : ∀ x ∈ p0, x.block < W.heap.size := by obtain ⟨m, hm⟩ := k0; exact DataW.trod_lt m _ _ _ hm
  obtain ⟨y0, K0, g0⟩ := Dec.arg (Dec.slice (B := 6) Tryd.underlying38 (by kernel_rfl) (by kernel_rfl) (dec_S66 enc W)) hsz (j := 0) (t := 38) rfl rfl h0
  obtain ⟨a0, len0, cap0, rfl⟩ := okWide_slice Tryd.underlying38 (hval 0 38 v0 rfl rfl)
  obtain ⟨A0, c0, he0, hc0, hr0⟩ := K0
  simp only [Value.cells, List.cons.injEq, Value.slice.injEq, and_true] at he0
  obtain ⟨rfl, rfl, rfl⟩ := he0
  clear hA0 hval0 hsz0 hsz
  refine (XFnExactYarnsText.laws_FnExactYarnsText.walk Pure.FnExactYarnsText _ _ y0 W hr0 hc0 htab g0).mono fun e W' ⟨he, bel⟩ => ?_
  subst he
  exact ⟨_, rfl, _, _, _, [], _, [], hW', trodAll_mk1 (shut_bool Tryd.underlying4 _), (trodAll_cons_mk (Below.trod laidOut (by kernel_rfl) (of_decide_eq_true (by kernel_rfl)) k0 bel lt0) trodAll_mk0), rfl, bel.frame _, fun h => by cases h⟩
theorem over : Rows.fnExactYarnsTextRow.holds Tryd.pinned (OpenSpec.ofChange Rows.fnExactYarnsTextSpec) :=
  OpenClaim.holds_of_wide 6 Tryd.f6 rfl rfl rfl rfl rfl rfl rfl ⟨rfl, rfl, rfl, rfl, rfl⟩ rfl rfl rfl rfl rfl (by kernel_rfl) Tryd.func6 (by kernel_rfl)
    (of_decide_eq_true (by kernel_rfl)) (by unfold Func.isWrapper; first | (rw [if_pos (by decide +kernel)]; kernel_rfl) | (rw [if_neg (by decide +kernel)]; exact ⟨rfl, rfl⟩))
    (fun os started H enc _ => lifted os started H enc)
theorem proved : Rows.FnExactYarnsTextCardSaid := 
  Claim7.holds_tied_plain_at .later [] [.data, .data, .data] true (true, "7e82ff31f637cfdb727a1c487fe3fff5415bacbe271d4f334258d020fc717122") true over (fun _ h => by cases h) (by kernel_rfl) (fun _ h => by cases h) fnExactYarnsText_row_tie rfl ⟨rfl, rfl⟩ (by kernel_rfl) rfl
    (fun f fn hf hfn => by
      obtain rfl : f = 6 := Option.some.inj ((show Tryd.prog.funcNamed "loop.example/g01384/laws.FnExactYarnsText" = some 6 by kernel_rfl).symm.trans hf) |>.symm
      obtain rfl : fn = Tryd.f6 := (Option.some.inj (Tryd.func6.symm.trans hfn)).symm
      exact ⟨by kernel_rfl, fun j t ht => by
        rw [Tryd.params6] at ht
        have hm : t ∈ [38] := by simpa using Array.mem_of_getElem? ht
        have hall : ([38].all fun u => !Tryd.prog.wantsStandIn u) = true := by kernel_rfl
        exact (show Tryd.prog.wantsStandIn t = false by simpa using List.all_eq_true.1 hall t hm)⟩)
    (by kernel_rfl)
end Go.Proofs.YtddhebmnhcilfaaDoor.fnExactYarnsText
namespace Go.Proofs.YtddhebmnhcilfaaDoor
/-- The row, under a short name, for the claim. -/
theorem fnExactYarnsText_holds : Rows.FnExactYarnsTextCardSaid := fnExactYarnsText.proved
end Go.Proofs.YtddhebmnhcilfaaDoor
