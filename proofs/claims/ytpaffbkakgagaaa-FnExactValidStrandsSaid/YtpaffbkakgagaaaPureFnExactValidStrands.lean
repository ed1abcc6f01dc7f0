/- Both ask the same of each strand. -/
import Derived.Test.YtpaffbkakgagaaaXFnExactValidStrandsx2
namespace Go.Proofs.Ytpaffbkakgagaaa.Pure
open Go.RowKit Go.Proofs.Ytpaffbkakgagaaa.XFnExactValidStrands Go.Proofs.YtpaffbkakgagaaaW.PrintWords Go.Proofs.YtpaffbkakgagaaaW.PrintLast
set_option linter.unusedVariables false
set_option linter.unusedSimpArgs false
theorem wr {n : Int} (h0 : -9223372036854775808 ≤ n) (h1 : n ≤ 9223372036854775807) : wrap64 n = n := by
  unfold wrap64; omega
theorem wf64 {a : Int} (h : (Lit.int .i64 a).wf = true) : -9223372036854775808 ≤ a ∧ a ≤ 9223372036854775807 := by
  simp only [Lit.wf, IntKind.min, IntKind.max, IntKind.signed, IntKind.bits, Bool.and_eq_true, decide_eq_true_eq, if_true] at h
  omega
theorem ev_id {α : Type} {g : Nat → Option α} {r s : α} (h : Ev g r) (e : r = s) : Ev g s := e ▸ h
theorem ev_const {α : Type} {o : Option α} {r : α} (h : o = some r) : Ev (fun _ => o) r := ⟨0, fun _ _ => h⟩
theorem ev_fun {α : Type} {g : Nat → Option α} {r s : α} (h : Ev g r) (k : Ev g s) : r = s := by
  obtain ⟨a, h⟩ := h
  obtain ⟨b, k⟩ := k
  have x := h (max a b) (by omega)
  have y := k (max a b) (by omega)
  rw [x] at y; exact Option.some.inj y
/-- Both come to one answer. -/
def Same {α : Type} (g f : Nat → Option α) : Prop := ∃ r, Ev g r ∧ Ev f r
theorem Same.step {α : Type} {g f g' f' : Nat → Option α} (hg : ∀ k, g (k + 1) = g' k) (hf : ∀ k, f (k + 1) = f' k) (h : Same g' f') : Same g f := by
  obtain ⟨r, a, b⟩ := h
  exact ⟨r, Ev.step hg a, Ev.step hf b⟩
theorem Same.left {α : Type} {g f g' : Nat → Option α} (hg : ∀ k, g (k + 1) = g' k) (h : Same g' f) : Same g f := by
  obtain ⟨r, a, b⟩ := h
  exact ⟨r, Ev.step hg a, b⟩
theorem Same.right {α : Type} {g f f' : Nat → Option α} (hf : ∀ k, f (k + 1) = f' k) (h : Same g f') : Same g f := by
  obtain ⟨r, a, b⟩ := h
  exact ⟨r, a, Ev.step hf b⟩
theorem Same.now {α : Type} (r : α) : Same (fun _ => some r) (fun _ => some r) := ⟨r, Ev.now r, Ev.now r⟩
theorem if_dec {α : Type} {p : Prop} [Decidable p] (a b : α) : (if decide p = true then a else b) = if p then a else b := by
  by_cases h : p <;> simp [h]
theorem w00 : wrap64 0 = 0 := wr (by omega) (by omega)
theorem l00In_f (a b c : Int) : spec_l00In.f a b c = some (decide (b ≤ a ∧ a ≤ c)) := by
  unfold spec_l00In.f
  by_cases h : b ≤ a <;> simp [h]
theorem within_f (a b c : Int) : impl_within.f a b c = some (decide (b ≤ a ∧ a ≤ c)) := by
  unfold impl_within.f
  by_cases h : b ≤ a <;> simp [h]
theorem allO_some {α : Type} (p : α → Bool) : ∀ l : List α, allO (fun x => some (p x)) l = some (l.all p)
  | [] => rfl
  | x :: l => by
    simp only [allO, Option.bind_some, List.all_cons, allO_some p l]
    cases p x <;> simp
theorem allG_some {α : Type} (p : α → Bool) (l : List α) (h : (l.length : Int) ≤ 4611686018427387904) : allG l (fun x => some (p x)) = some (l.all p) := by
  unfold allG; rw [if_pos h, allO_some]
abbrev LS := S67
abbrev IS := S69
def toS (x : LS) : IS := ⟨x.f0, x.f1⟩
theorem rdIS {l : List IS} {i : Nat} (h : i < l.length) : rd_T69 l (i : Int) = l[i] := by
  unfold rd_T69; simp [List.getD, h]
theorem rdLS {l : List LS} {i : Nat} (h : i < l.length) : rd_T67 l (i : Int) = l[i] := by
  unfold rd_T67; simp [List.getD, h]
theorem szStrand_f (l : List LS) (n : Int) (h0 : (l.length : Int) ≤ 140737488351232) (hn : 0 ≤ n ∧ n ≤ 1048576) : laws_szStrandS.f l n = some (if (l.length : Int) ≤ n then n - l.length else -1) := by
  unfold laws_szStrandS.f
  rw [wr (by omega) (by omega)]
  by_cases h : (l.length : Int) ≤ n
  · rw [if_neg (by omega), if_pos h]
  · rw [if_pos (by omega), if_neg h]
theorem toStrandS_loop (l : List LS) (hl : (l.length : Int) ≤ 140737488351232) (d : Nat) : ∀ (out rest : List IS) (i : Nat), out.length = i → rest.length = d → i + d = l.length →
    Ev (fun k => laws_toStrandS.l0 k l (out ++ rest) (i : Int)) (out ++ (l.drop i).map toS) := by
  induction d with
  | zero =>
    intro out rest i ho hr hi
    refine Ev.step (f := fun _ => some (out ++ (l.drop i).map toS)) (fun k => ?_) (Ev.now _)
    simp only [laws_toStrandS.l0]
    rw [if_neg (by omega), List.drop_eq_nil_of_le (by omega), List.length_eq_zero_iff.1 hr]; simp
  | succ d ih =>
    intro out rest i ho hr hi
    have hil : i < l.length := by omega
    obtain ⟨y, rest, rfl⟩ : ∃ y r, rest = y :: r := by cases rest with | nil => simp at hr | cons y r => exact ⟨y, r, rfl⟩
    refine Ev.step (fun k => ?_) (ev_id (ih (out ++ [toS l[i]]) rest (i + 1) (by simp; omega) (by simpa using hr) (by omega)) ?_)
    · simp only [laws_toStrandS.l0, laws_toStrand.f, Option.bind_some]
      rw [if_pos (by omega), if_pos (by omega), if_pos (by simp; omega), rdLS hil, wr (n := (i : Int) + 1) (by omega) (by omega)]
      have : (out ++ y :: rest).set (i : Int).toNat (⟨l[i].f0, l[i].f1⟩ : IS) = out ++ [toS l[i]] ++ rest := by
        rw [Int.toNat_natCast, List.set_append_right _ _ (by omega), ho]; simp [toS]
      rw [this]; rfl
    · rw [List.drop_eq_getElem_cons hil]; simp only [List.map_cons, List.append_assoc, List.cons_append, List.nil_append]
theorem toStrandS_ev (l : List LS) (hl : (l.length : Int) ≤ 140737488351232) (hl2 : l.length ≤ 46912496118442) : Ev (fun k => laws_toStrandS.f k l) (l.map toS) := by
  unfold laws_toStrandS.f
  have h0 : (0 : Int) ≤ (l.length : Int) := by omega
  have h1 : ((l.length : Int) : Int).toNat ≤ 70368744177664 := by omega
  simp only [if_pos h0, if_pos h1]
  have := toStrandS_loop l hl l.length [] (List.replicate l.length z69) 0 rfl (by simp) (by omega)
  simpa using this
theorem eqStrandS_loop (l : List IS) (hl : (l.length : Int) ≤ 140737488351232) (d : Nat) : ∀ (i : Nat), i + d = l.length → Ev (fun k => laws_eqStrandS.l0 k l l (i : Int)) true := by
  induction d with
  | zero =>
    intro i hi
    refine Ev.step (f := fun _ => some true) (fun k => ?_) (Ev.now _)
    simp only [laws_eqStrandS.l0]; rw [if_neg (by omega)]
  | succ d ih =>
    intro i hi
    refine Ev.step (fun k => ?_) (ih (i + 1) (by omega))
    simp only [laws_eqStrandS.l0, laws_eqStrand.f, if_true, Option.bind_some]
    rw [if_pos (by omega), if_pos (by omega), if_pos (by omega), wr (n := (i : Int) + 1) (by omega) (by omega)]; rfl
theorem eqStrandS_self (l : List IS) (hl : (l.length : Int) ≤ 140737488351232) : Ev (fun k => laws_eqStrandS.f k l l) true := by
  unfold laws_eqStrandS.f
  simp only [if_true]
  exact eqStrandS_loop l hl l.length 0 (by omega)
/-- What a valid strand is. -/
def vS (x : IS) : Bool := decide ((1 ≤ wrap64 x.f0 ∧ wrap64 x.f0 ≤ 2000) ∧ x.f1 < 6)
theorem vS_loop (l : List IS) (hl : (l.length : Int) ≤ 140737488351232) (d : Nat) : ∀ (i : Nat), i + d = l.length → Ev (fun k => spec_l04Strands.l0 k l (i : Int)) ((l.drop i).all vS) := by
  induction d with
  | zero =>
    intro i hi
    refine Ev.step (f := fun _ => some true) (fun k => ?_) (ev_id (Ev.now _) ?_)
    · simp only [spec_l04Strands.l0]; rw [if_neg (by omega)]
    · rw [List.drop_eq_nil_of_le (by omega)]; rfl
  | succ d ih =>
    intro i hi
    have hil : i < l.length := by omega
    rw [List.drop_eq_getElem_cons hil, List.all_cons]
    have hv : vS l[i] = decide ((1 ≤ wrap64 l[i].f0 ∧ wrap64 l[i].f0 ≤ 2000) ∧ l[i].f1 < 6) := rfl
    by_cases h1 : 1 ≤ wrap64 l[i].f0 ∧ wrap64 l[i].f0 ≤ 2000
    · by_cases h2 : l[i].f1 < 6
      · refine Ev.step (fun k => ?_) (ev_id (ih (i + 1) (by omega)) (by rw [hv, decide_eq_true ⟨h1, h2⟩, Bool.true_and]))
        simp only [spec_l04Strands.l0, rdIS hil, l00In_f, Option.bind_some, if_dec]
        rw [if_pos (by omega), if_pos (by omega), if_pos h1, if_neg (by omega), wr (n := (i : Int) + 1) (by omega) (by omega)]; rfl
      · refine Ev.step (f := fun _ => some false) (fun k => ?_) (ev_id (Ev.now _) (by rw [hv, decide_eq_false (fun h => h2 h.2), Bool.false_and]))
        simp only [spec_l04Strands.l0, rdIS hil, l00In_f, Option.bind_some, if_dec]
        rw [if_pos (by omega), if_pos (by omega), if_pos h1, if_pos (by omega)]
    · refine Ev.step (f := fun _ => some false) (fun k => ?_) (ev_id (Ev.now _) (by rw [hv, decide_eq_false (fun h => h1 h.1), Bool.false_and]))
      simp only [spec_l04Strands.l0, rdIS hil, l00In_f, Option.bind_some, if_dec]
      rw [if_pos (by omega), if_pos (by omega), if_neg h1]
theorem vS_ev (l : List IS) (hl : (l.length : Int) ≤ 140737488351232) : Ev (fun k => spec_l04Strands.f k l) (l.all vS) := by
  unfold spec_l04Strands.f
  have := vS_loop l hl l.length 0 (by omega)
  simpa using this
theorem vS_impl (x : IS) : impl_ValidStrands_1.f x.f0 x.f1 = some (vS x) := by
  unfold impl_ValidStrands_1.f vS
  simp only [within_f, Option.bind_some, if_dec]
  by_cases h1 : 1 ≤ wrap64 x.f0 ∧ wrap64 x.f0 ≤ 2000 <;> simp [h1]
theorem validS_f (l : List IS) (hl : (l.length : Int) ≤ 140737488351232) : impl_ValidStrands.f l = some (l.all vS) := by
  unfold impl_ValidStrands.f
  have e : (fun x_ : IS => impl_ValidStrands_1.f x_.f0 x_.f1) = fun x => some (vS x) := funext vS_impl
  show (allG l _).bind _ = _
  rw [e, allG_some vS l (by omega)]; rfl
theorem FnExactValidStrands : laws_FnExactValidStrands.Pure := by
  intro l ⟨hl, hs⟩
  refine Ev.rounds ?_
  unfold laws_FnExactValidStrands.f
  simp only [szStrand_f l 1048576 (by omega) (by omega), Option.bind_some]
  by_cases h : (l.length : Int) ≤ 1048576
  · have hn : ¬ (1048576 - (l.length : Int) < 0) := by omega
    simp only [if_pos h, if_neg hn]
    have ht := toStrandS_ev l (by omega) (by omega)
    have e1 : Ev (fun k => spec_ValidStrands.f k (l.map toS)) ((l.map toS).all vS) := by
      unfold spec_ValidStrands.f; exact Ev.bind (vS_ev (l.map toS) (by simp; omega)) (Ev.now _)
    refine Ev.bind ht (Ev.bind e1 (Ev.bind ht ?_))
    simp only [validS_f (l.map toS) (by simp; omega), Option.bind_some, bne_self_eq_false, Bool.false_eq_true, if_false]
    refine Ev.bind ht (Ev.bind (eqStrandS_self (l.map toS) (by simp; omega)) ?_)
    simp only [if_true]; exact Ev.now _
  · simp only [if_neg h, show ((-1 : Int) < 0) from by omega, if_true]; exact Ev.now _
end Go.Proofs.Ytpaffbkakgagaaa.Pure
