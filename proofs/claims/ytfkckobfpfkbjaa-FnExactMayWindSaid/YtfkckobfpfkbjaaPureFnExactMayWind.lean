/- The program's MayWind and the reference's give the same answer at all meets and strands; no conditions. -/
import Derived.Test.YtfkckobfpfkbjaaXFnExactMayWindx2
namespace Go.Proofs.Ytfkckobfpfkbjaa.Pure
open Go.RowKit Go.Proofs.Ytfkckobfpfkbjaa.XFnExactMayWind Go.Proofs.YtfkckobfpfkbjaaW.PrintWords Go.Proofs.YtfkckobfpfkbjaaW.PrintLast
set_option linter.unusedVariables false
set_option linter.unusedSimpArgs false
theorem wr {n : Int} (h0 : -9223372036854775808 ≤ n) (h1 : n ≤ 9223372036854775807) : wrap64 n = n := by
  unfold wrap64; omega
theorem wf64 {a : Int} (h : (Lit.int .i64 a).wf = true) : -9223372036854775808 ≤ a ∧ a ≤ 9223372036854775807 := by
  simp only [Lit.wf, IntKind.min, IntKind.max, IntKind.signed, IntKind.bits, Bool.and_eq_true, decide_eq_true_eq, if_true] at h
  omega
theorem ev_id {α : Type} {g : Nat → Option α} {r s : α} (h : Ev g r) (e : r = s) : Ev g s := e ▸ h
theorem ev_const {α : Type} {o : Option α} {r : α} (h : o = some r) : Ev (fun _ => o) r := ⟨0, fun _ _ => h⟩
theorem ev_fun {α : Type} {g : Nat → Option α} {r s : α} (h : Ev g r) (k : Ev g s) : r = s := by
  obtain ⟨a, h⟩ := h
  obtain ⟨b, k⟩ := k
  have x := h (max a b) (by omega)
  have y := k (max a b) (by omega)
  rw [x] at y; exact Option.some.inj y
/-- Both come to one answer. -/
def Same {α : Type} (g f : Nat → Option α) : Prop := ∃ r, Ev g r ∧ Ev f r
theorem Same.step {α : Type} {g f g' f' : Nat → Option α} (hg : ∀ k, g (k + 1) = g' k) (hf : ∀ k, f (k + 1) = f' k) (h : Same g' f') : Same g f := by
  obtain ⟨r, a, b⟩ := h
  exact ⟨r, Ev.step hg a, Ev.step hf b⟩
theorem Same.left {α : Type} {g f g' : Nat → Option α} (hg : ∀ k, g (k + 1) = g' k) (h : Same g' f) : Same g f := by
  obtain ⟨r, a, b⟩ := h
  exact ⟨r, Ev.step hg a, b⟩
theorem Same.right {α : Type} {g f f' : Nat → Option α} (hf : ∀ k, f (k + 1) = f' k) (h : Same g f') : Same g f := by
  obtain ⟨r, a, b⟩ := h
  exact ⟨r, a, Ev.step hf b⟩
theorem Same.now {α : Type} (r : α) : Same (fun _ => some r) (fun _ => some r) := ⟨r, Ev.now r, Ev.now r⟩
theorem if_dec {α : Type} {p : Prop} [Decidable p] (a b : α) : (if decide p = true then a else b) = if p then a else b := by
  by_cases h : p <;> simp [h]
theorem w00 : wrap64 0 = 0 := wr (by omega) (by omega)
theorem l00In_f (a b c : Int) : spec_l00In.f a b c = some (decide (b ≤ a ∧ a ≤ c)) := by
  unfold spec_l00In.f
  by_cases h : b ≤ a <;> simp [h]
theorem within_f (a b c : Int) : impl_within.f a b c = some (decide (b ≤ a ∧ a ≤ c)) := by
  unfold impl_within.f
  by_cases h : b ≤ a <;> simp [h]
theorem allO_some {α : Type} (p : α → Bool) : ∀ l : List α, allO (fun x => some (p x)) l = some (l.all p)
  | [] => rfl
  | x :: l => by
    simp only [allO, Option.bind_some, List.all_cons, allO_some p l]
    cases p x <;> simp
theorem allG_some {α : Type} (p : α → Bool) (l : List α) (h : (l.length : Int) ≤ 4611686018427387904) : allG l (fun x => some (p x)) = some (l.all p) := by
  unfold allG; rw [if_pos h, allO_some]
abbrev IS := S32
theorem rdIS {l : List IS} {i : Nat} (h : i < l.length) : rd_T32 l (i : Int) = l[i] := by
  unfold rd_T32; simp [List.getD, h]
/-- What a valid strand is. -/
def vS (x : IS) : Bool := decide ((1 ≤ wrap64 x.f0 ∧ wrap64 x.f0 ≤ 2000) ∧ x.f1 < 6)
theorem vS_loop (l : List IS) (hl : (l.length : Int) ≤ 140737488351232) (d : Nat) : ∀ (i : Nat), i + d = l.length → Ev (fun k => spec_l04Strands.l0 k l (i : Int)) ((l.drop i).all vS) := by
  induction d with
  | zero =>
    intro i hi
    refine Ev.step (f := fun _ => some true) (fun k => ?_) (ev_id (Ev.now _) ?_)
    · simp only [spec_l04Strands.l0]; rw [if_neg (by omega)]
    · rw [List.drop_eq_nil_of_le (by omega)]; rfl
  | succ d ih =>
    intro i hi
    have hil : i < l.length := by omega
    rw [List.drop_eq_getElem_cons hil, List.all_cons]
    have hv : vS l[i] = decide ((1 ≤ wrap64 l[i].f0 ∧ wrap64 l[i].f0 ≤ 2000) ∧ l[i].f1 < 6) := rfl
    by_cases h1 : 1 ≤ wrap64 l[i].f0 ∧ wrap64 l[i].f0 ≤ 2000
    · by_cases h2 : l[i].f1 < 6
      · refine Ev.step (fun k => ?_) (ev_id (ih (i + 1) (by omega)) (by rw [hv, decide_eq_true ⟨h1, h2⟩, Bool.true_and]))
        simp only [spec_l04Strands.l0, rdIS hil, l00In_f, Option.bind_some, if_dec]
        rw [if_pos (by omega), if_pos (by omega), if_pos h1, if_neg (by omega), wr (n := (i : Int) + 1) (by omega) (by omega)]; rfl
      · refine Ev.step (f := fun _ => some false) (fun k => ?_) (ev_id (Ev.now _) (by rw [hv, decide_eq_false (fun h => h2 h.2), Bool.false_and]))
        simp only [spec_l04Strands.l0, rdIS hil, l00In_f, Option.bind_some, if_dec]
        rw [if_pos (by omega), if_pos (by omega), if_pos h1, if_pos (by omega)]
    · refine Ev.step (f := fun _ => some false) (fun k => ?_) (ev_id (Ev.now _) (by rw [hv, decide_eq_false (fun h => h1 h.1), Bool.false_and]))
      simp only [spec_l04Strands.l0, rdIS hil, l00In_f, Option.bind_some, if_dec]
      rw [if_pos (by omega), if_pos (by omega), if_neg h1]
theorem vS_ev (l : List IS) (hl : (l.length : Int) ≤ 140737488351232) : Ev (fun k => spec_l04Strands.f k l) (l.all vS) := by
  unfold spec_l04Strands.f
  have := vS_loop l hl l.length 0 (by omega)
  simpa using this
theorem vS_impl (x : IS) : impl_ValidStrands_1.f x.f0 x.f1 = some (vS x) := by
  unfold impl_ValidStrands_1.f vS
  simp only [within_f, Option.bind_some, if_dec]
  by_cases h1 : 1 ≤ wrap64 x.f0 ∧ wrap64 x.f0 ≤ 2000 <;> simp [h1]
theorem validS_f (l : List IS) (hl : (l.length : Int) ≤ 140737488351232) : impl_ValidStrands.f l = some (l.all vS) := by
  unfold impl_ValidStrands.f
  have e : (fun x_ : IS => impl_ValidStrands_1.f x_.f0 x_.f1) = fun x => some (vS x) := funext vS_impl
  show (allG l _).bind _ = _
  rw [e, allG_some vS l (by omega)]; rfl
theorem wfu8 {a : Int} (h : (Lit.int .u8 a).wf = true) : 0 ≤ a ∧ a < 256 := by
  simp only [Lit.wf, IntKind.min, IntKind.max, IntKind.signed, IntKind.bits, Bool.and_eq_true, decide_eq_true_eq, if_false, Bool.false_eq_true] at h
  omega
theorem rd_u8 (ms : List Int) (h : ∀ x ∈ ms, 0 ≤ x ∧ x < 256) (k : Int) : 0 ≤ rd ms k ∧ rd ms k < 256 := by
  unfold rd
  rw [List.getD_eq_getElem?_getD]
  cases hk : ms[k.toNat]? with
  | none => simp
  | some x => simpa using h x (List.mem_of_getElem? hk)
theorem shift_u8 {x : Int} (a : Nat) (h0 : 0 ≤ x) (h1 : x < 256) : 0 ≤ x / 2 ^ a ∧ x / 2 ^ a < 256 := by
  refine ⟨Int.ediv_nonneg h0 (Int.le_of_lt (Int.pow_pos (by omega))), ?_⟩
  exact Int.lt_of_le_of_lt (Int.ediv_le_self _ h0) h1
theorem and1_u8 {x : Int} (h0 : 0 ≤ x) (h1 : x < 256) : bits BinOp.and IntKind.u8 x 1 = x % 2 := by
  have z := bits_mask .u8 8 (by decide) wraps_u8 1 (by decide) x h0 h1
  simpa using z
theorem tmod2 {x : Int} (h0 : 0 ≤ x) : x.tmod 2 = x % 2 := Int.tmod_eq_emod_of_nonneg h0
theorem bit_same {x : Int} (a : Nat) (h0 : 0 ≤ x) (h1 : x < 256) : impl_mBit x a = spec_mBit x a := by
  obtain ⟨s0, s1⟩ := shift_u8 a h0 h1
  unfold impl_mBit spec_mBit
  rw [and1_u8 s0 s1, tmod2 s0]
theorem vmB_same (ms : List Int) (hm : ∀ x ∈ ms, 0 ≤ x ∧ x < 256) {x : Int} (h0 : 0 ≤ x) (h1 : x < 256) (a : Nat) : ∀ d, impl_vmB ms x a d = spec_vmB ms x a d
  | 0 => rfl
  | d + 1 => by
    simp only [impl_vmB, spec_vmB]
    rw [bit_same _ h0 h1, bit_same a (rd_u8 ms hm _).1 (rd_u8 ms hm _).2, vmB_same ms hm h0 h1 a d]
theorem vmA_same (ms : List Int) (hm : ∀ x ∈ ms, 0 ≤ x ∧ x < 256) : ∀ d, impl_vmA ms d = spec_vmA ms d
  | 0 => rfl
  | d + 1 => by
    simp only [impl_vmA, spec_vmA]
    have h := rd_u8 ms hm ((5 - d : Nat) : Int)
    rw [bit_same _ h.1 h.2, vmB_same ms hm h.1 h.2, vmA_same ms hm d]
/-- Are meets valid? -/
def okM (a b c d e f : Int) : Bool := spec_vmA [a, b, c, d, e, f] 6
def U8 (a b c d e f : Int) : Prop := ∀ x ∈ [a, b, c, d, e, f], 0 ≤ x ∧ x < 256
theorem U8.mk {a b c d e f : Int} (ha : (Lit.int .u8 a).wf = true) (hb : (Lit.int .u8 b).wf = true) (hc : (Lit.int .u8 c).wf = true) (hd : (Lit.int .u8 d).wf = true) (he : (Lit.int .u8 e).wf = true) (hf : (Lit.int .u8 f).wf = true) : U8 a b c d e f := by
  intro x hx
  simp only [List.mem_cons, List.not_mem_nil, or_false] at hx
  rcases hx with rfl | rfl | rfl | rfl | rfl | rfl
  · exact wfu8 ha
  · exact wfu8 hb
  · exact wfu8 hc
  · exact wfu8 hd
  · exact wfu8 he
  · exact wfu8 hf
theorem specM_f (a b c d e f : Int) : spec_l04Meets.f a b c d e f = some (okM a b c d e f) := rfl
theorem implM_f {a b c d e f : Int} (h : U8 a b c d e f) : impl_ValidMeets.f a b c d e f = some (okM a b c d e f) := by
  unfold impl_ValidMeets.f okM
  rw [vmA_same _ h]
/-- May two dyes be on one reel? -/
def may (ms : List Int) (a b : Int) : Bool := (rd ms a / 2 ^ b.toNat) % 2 == 1
theorem specMay_f (m0 m1 m2 m3 m4 m5 aL a bL b : Int) (hm : U8 m0 m1 m2 m3 m4 m5) (ha : 0 ≤ a ∧ a < 6) (hb : 0 ≤ b ∧ b < 6) : spec_l04May.f m0 m1 m2 m3 m4 m5 aL a bL b = some (may [m0, m1, m2, m3, m4, m5] a b) := by
  unfold spec_l04May.f may
  rw [if_pos ⟨ha.1, ha.2, hb.1⟩]
  have w : IntKind.u64.wrap b = b := by
    simp only [IntKind.wrap, IntKind.bits, IntKind.signed]; simp; omega
  have h := rd_u8 _ hm a
  rw [w, Nat.min_eq_left (by omega), tmod2 (shift_u8 b.toNat h.1 h.2).1]
theorem implMay_f (m0 m1 m2 m3 m4 m5 aL a bL b : Int) (hm : U8 m0 m1 m2 m3 m4 m5) (ha : 0 ≤ a ∧ a < 6) (hb : 0 ≤ b ∧ b < 6) : impl_mayWind.f m0 m1 m2 m3 m4 m5 aL a bL b = some (may [m0, m1, m2, m3, m4, m5] a b) := by
  unfold impl_mayWind.f may
  rw [if_pos ⟨ha.1, ha.2, hb.1⟩]
  have h := rd_u8 _ hm a
  have s := shift_u8 b.toNat h.1 h.2
  rw [Nat.min_eq_left (by omega), and1_u8 s.1 s.2]
theorem MayWind_same {m0 m1 m2 m3 m4 m5 : Int} (hm : U8 m0 m1 m2 m3 m4 m5) (aL a bL b : Int) (ha : 0 ≤ a ∧ a < 256) (hb : 0 ≤ b ∧ b < 256) :
    ∃ q : Bool × Int, Ev (fun k => spec_MayWind.f k m0 m1 m2 m3 m4 m5 aL a bL b) q ∧ impl_MayWind.f m0 m1 m2 m3 m4 m5 aL a bL b = some q := by
  have s1 := vS_ev [(⟨aL, a⟩ : IS), (⟨bL, b⟩ : IS)] (by simp)
  have i1 := validS_f [(⟨aL, a⟩ : IS), (⟨bL, b⟩ : IS)] (by simp)
  unfold spec_MayWind.f impl_MayWind.f
  simp only [specM_f, implM_f hm, Option.bind_some]
  by_cases ok : okM m0 m1 m2 m3 m4 m5 = true
  · simp only [if_pos ok, i1, Option.bind_some]
    cases hv : [(⟨aL, a⟩ : IS), (⟨bL, b⟩ : IS)].all vS with
    | true =>
      rw [hv] at s1
      simp only [List.all_cons, List.all_nil, Bool.and_true, Bool.and_eq_true] at hv
      have va : a < 6 := (of_decide_eq_true hv.1).2
      have vb : b < 6 := (of_decide_eq_true hv.2).2
      refine ⟨(may [m0, m1, m2, m3, m4, m5] a b, 0), Ev.bind s1 ?_, ?_⟩
      · simp only [if_true, specMay_f m0 m1 m2 m3 m4 m5 aL a bL b hm ⟨ha.1, va⟩ ⟨hb.1, vb⟩, Option.bind_some]; exact Ev.now _
      · simp only [if_true, implMay_f m0 m1 m2 m3 m4 m5 aL a bL b hm ⟨ha.1, va⟩ ⟨hb.1, vb⟩, Option.bind_some]
    | false =>
      rw [hv] at s1
      exact ⟨(false, 1), Ev.bind s1 (by simp only [Bool.false_eq_true, if_false]; exact Ev.now _), by simp only [Bool.false_eq_true, if_false]⟩
  · simp only [if_neg ok]
    exact ⟨(false, 1), Ev.now _, rfl⟩
theorem FnExactMayWind : laws_FnExactMayWind.Pure := by
  intro m0 m1 m2 m3 m4 m5 aL a bL b h0 h1 h2 h3 h4 h5 _ ha _ hb
  refine Ev.rounds ?_
  have hm := U8.mk h0 h1 h2 h3 h4 h5
  unfold laws_FnExactMayWind.f
  have t : laws_toMeets.f m0 m1 m2 m3 m4 m5 = some (m0, m1, m2, m3, m4, m5) := rfl
  have ta : laws_toStrand.f aL a = some (aL, a) := rfl
  have tb : laws_toStrand.f bL b = some (bL, b) := rfl
  obtain ⟨⟨q, c⟩, s, i⟩ := MayWind_same hm aL a bL b (wfu8 ha) (wfu8 hb)
  simp only [t, ta, tb, Option.bind_some]
  refine Ev.bind s ?_
  simp only [i, Option.bind_some, bne_self_eq_false, Bool.false_eq_true, if_false, if_true]
  exact Ev.now _
end Go.Proofs.Ytfkckobfpfkbjaa.Pure
