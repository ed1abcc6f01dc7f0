/- The program's ValidMeets and the reference's give the same answer at all meets; no conditions. -/
import Derived.Test.YtfkckobfpfkbjaaXFnExactValidMeetsx1
namespace Go.Proofs.Ytfkckobfpfkbjaa.Pure
open Go.RowKit Go.Proofs.Ytfkckobfpfkbjaa.XFnExactValidMeets Go.Proofs.YtfkckobfpfkbjaaW.PrintWords Go.Proofs.YtfkckobfpfkbjaaW.PrintLast
set_option linter.unusedVariables false
set_option linter.unusedSimpArgs false
theorem wr {n : Int} (h0 : -9223372036854775808 ≤ n) (h1 : n ≤ 9223372036854775807) : wrap64 n = n := by
  unfold wrap64; omega
theorem wf64 {a : Int} (h : (Lit.int .i64 a).wf = true) : -9223372036854775808 ≤ a ∧ a ≤ 9223372036854775807 := by
  simp only [Lit.wf, IntKind.min, IntKind.max, IntKind.signed, IntKind.bits, Bool.and_eq_true, decide_eq_true_eq, if_true] at h
  omega
theorem ev_id {α : Type} {g : Nat → Option α} {r s : α} (h : Ev g r) (e : r = s) : Ev g s := e ▸ h
theorem ev_const {α : Type} {o : Option α} {r : α} (h : o = some r) : Ev (fun _ => o) r := ⟨0, fun _ _ => h⟩
theorem ev_fun {α : Type} {g : Nat → Option α} {r s : α} (h : Ev g r) (k : Ev g s) : r = s := by
  obtain ⟨a, h⟩ := h
  obtain ⟨b, k⟩ := k
  have x := h (max a b) (by omega)
  have y := k (max a b) (by omega)
  rw [x] at y; exact Option.some.inj y
/-- Both come to one answer. -/
def Same {α : Type} (g f : Nat → Option α) : Prop := ∃ r, Ev g r ∧ Ev f r
theorem Same.step {α : Type} {g f g' f' : Nat → Option α} (hg : ∀ k, g (k + 1) = g' k) (hf : ∀ k, f (k + 1) = f' k) (h : Same g' f') : Same g f := by
  obtain ⟨r, a, b⟩ := h
  exact ⟨r, Ev.step hg a, Ev.step hf b⟩
theorem Same.left {α : Type} {g f g' : Nat → Option α} (hg : ∀ k, g (k + 1) = g' k) (h : Same g' f) : Same g f := by
  obtain ⟨r, a, b⟩ := h
  exact ⟨r, Ev.step hg a, b⟩
theorem Same.right {α : Type} {g f f' : Nat → Option α} (hf : ∀ k, f (k + 1) = f' k) (h : Same g f') : Same g f := by
  obtain ⟨r, a, b⟩ := h
  exact ⟨r, a, Ev.step hf b⟩
theorem Same.now {α : Type} (r : α) : Same (fun _ => some r) (fun _ => some r) := ⟨r, Ev.now r, Ev.now r⟩
theorem if_dec {α : Type} {p : Prop} [Decidable p] (a b : α) : (if decide p = true then a else b) = if p then a else b := by
  by_cases h : p <;> simp [h]
theorem w00 : wrap64 0 = 0 := wr (by omega) (by omega)
theorem wfu8 {a : Int} (h : (Lit.int .u8 a).wf = true) : 0 ≤ a ∧ a < 256 := by
  simp only [Lit.wf, IntKind.min, IntKind.max, IntKind.signed, IntKind.bits, Bool.and_eq_true, decide_eq_true_eq, if_false, Bool.false_eq_true] at h
  omega
theorem rd_u8 (ms : List Int) (h : ∀ x ∈ ms, 0 ≤ x ∧ x < 256) (k : Int) : 0 ≤ rd ms k ∧ rd ms k < 256 := by
  unfold rd
  rw [List.getD_eq_getElem?_getD]
  cases hk : ms[k.toNat]? with
  | none => simp
  | some x => simpa using h x (List.mem_of_getElem? hk)
theorem shift_u8 {x : Int} (a : Nat) (h0 : 0 ≤ x) (h1 : x < 256) : 0 ≤ x / 2 ^ a ∧ x / 2 ^ a < 256 := by
  refine ⟨Int.ediv_nonneg h0 (Int.le_of_lt (Int.pow_pos (by omega))), ?_⟩
  exact Int.lt_of_le_of_lt (Int.ediv_le_self _ h0) h1
theorem and1_u8 {x : Int} (h0 : 0 ≤ x) (h1 : x < 256) : bits BinOp.and IntKind.u8 x 1 = x % 2 := by
  have z := bits_mask .u8 8 (by decide) wraps_u8 1 (by decide) x h0 h1
  simpa using z
theorem tmod2 {x : Int} (h0 : 0 ≤ x) : x.tmod 2 = x % 2 := Int.tmod_eq_emod_of_nonneg h0
theorem bit_same {x : Int} (a : Nat) (h0 : 0 ≤ x) (h1 : x < 256) : impl_mBit x a = spec_mBit x a := by
  obtain ⟨s0, s1⟩ := shift_u8 a h0 h1
  unfold impl_mBit spec_mBit
  rw [and1_u8 s0 s1, tmod2 s0]
theorem vmB_same (ms : List Int) (hm : ∀ x ∈ ms, 0 ≤ x ∧ x < 256) {x : Int} (h0 : 0 ≤ x) (h1 : x < 256) (a : Nat) : ∀ d, impl_vmB ms x a d = spec_vmB ms x a d
  | 0 => rfl
  | d + 1 => by
    simp only [impl_vmB, spec_vmB]
    rw [bit_same _ h0 h1, bit_same a (rd_u8 ms hm _).1 (rd_u8 ms hm _).2, vmB_same ms hm h0 h1 a d]
theorem vmA_same (ms : List Int) (hm : ∀ x ∈ ms, 0 ≤ x ∧ x < 256) : ∀ d, impl_vmA ms d = spec_vmA ms d
  | 0 => rfl
  | d + 1 => by
    simp only [impl_vmA, spec_vmA]
    have h := rd_u8 ms hm ((5 - d : Nat) : Int)
    rw [bit_same _ h.1 h.2, vmB_same ms hm h.1 h.2, vmA_same ms hm d]
/-- Are meets valid? -/
def okM (a b c d e f : Int) : Bool := spec_vmA [a, b, c, d, e, f] 6
def U8 (a b c d e f : Int) : Prop := ∀ x ∈ [a, b, c, d, e, f], 0 ≤ x ∧ x < 256
theorem U8.mk {a b c d e f : Int} (ha : (Lit.int .u8 a).wf = true) (hb : (Lit.int .u8 b).wf = true) (hc : (Lit.int .u8 c).wf = true) (hd : (Lit.int .u8 d).wf = true) (he : (Lit.int .u8 e).wf = true) (hf : (Lit.int .u8 f).wf = true) : U8 a b c d e f := by
  intro x hx
  simp only [List.mem_cons, List.not_mem_nil, or_false] at hx
  rcases hx with rfl | rfl | rfl | rfl | rfl | rfl
  · exact wfu8 ha
  · exact wfu8 hb
  · exact wfu8 hc
  · exact wfu8 hd
  · exact wfu8 he
  · exact wfu8 hf
theorem specM_f (a b c d e f : Int) : spec_l04Meets.f a b c d e f = some (okM a b c d e f) := rfl
theorem implM_f {a b c d e f : Int} (h : U8 a b c d e f) : impl_ValidMeets.f a b c d e f = some (okM a b c d e f) := by
  unfold impl_ValidMeets.f okM
  rw [vmA_same _ h]
theorem FnExactValidMeets : laws_FnExactValidMeets.Pure := by
  intro a b c d e f ha hb hc hd he hf
  have hm := U8.mk ha hb hc hd he hf
  unfold laws_FnExactValidMeets.f
  have t : laws_toMeets.f a b c d e f = some (a, b, c, d, e, f) := rfl
  have s : spec_ValidMeets.f a b c d e f = some (okM a b c d e f) := rfl
  simp only [t, s, implM_f hm, Option.bind_some, bne_self_eq_false, Bool.false_eq_true, if_false]
end Go.Proofs.Ytfkckobfpfkbjaa.Pure
