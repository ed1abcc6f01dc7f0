/- What is left on each reel. -/
import Derived.Test.YtppmdfcfbldmjaaXFnExactLeftOnx6
namespace Go.Proofs.Ytppmdfcfbldmjaa.Pure
open Go.RowKit Go.Proofs.Ytppmdfcfbldmjaa.XFnExactLeftOn Go.Proofs.YtppmdfcfbldmjaaW.PrintWords Go.Proofs.YtppmdfcfbldmjaaW.PrintLast
set_option linter.unusedVariables false
set_option linter.unusedSimpArgs false
theorem wr {n : Int} (h0 : -9223372036854775808 ≤ n) (h1 : n ≤ 9223372036854775807) : wrap64 n = n := by
  unfold wrap64; omega
theorem wf64 {a : Int} (h : (Lit.int .i64 a).wf = true) : -9223372036854775808 ≤ a ∧ a ≤ 9223372036854775807 := by
  simp only [Lit.wf, IntKind.min, IntKind.max, IntKind.signed, IntKind.bits, Bool.and_eq_true, decide_eq_true_eq, if_true] at h
  omega
theorem ev_id {α : Type} {g : Nat → Option α} {r s : α} (h : Ev g r) (e : r = s) : Ev g s := e ▸ h
theorem ev_const {α : Type} {o : Option α} {r : α} (h : o = some r) : Ev (fun _ => o) r := ⟨0, fun _ _ => h⟩
theorem ev_fun {α : Type} {g : Nat → Option α} {r s : α} (h : Ev g r) (k : Ev g s) : r = s := by
  obtain ⟨a, h⟩ := h
  obtain ⟨b, k⟩ := k
  have x := h (max a b) (by omega)
  have y := k (max a b) (by omega)
  rw [x] at y; exact Option.some.inj y
/-- Both come to one answer. -/
def Same {α : Type} (g f : Nat → Option α) : Prop := ∃ r, Ev g r ∧ Ev f r
theorem Same.step {α : Type} {g f g' f' : Nat → Option α} (hg : ∀ k, g (k + 1) = g' k) (hf : ∀ k, f (k + 1) = f' k) (h : Same g' f') : Same g f := by
  obtain ⟨r, a, b⟩ := h
  exact ⟨r, Ev.step hg a, Ev.step hf b⟩
theorem Same.left {α : Type} {g f g' : Nat → Option α} (hg : ∀ k, g (k + 1) = g' k) (h : Same g' f) : Same g f := by
  obtain ⟨r, a, b⟩ := h
  exact ⟨r, Ev.step hg a, b⟩
theorem Same.right {α : Type} {g f f' : Nat → Option α} (hf : ∀ k, f (k + 1) = f' k) (h : Same g f') : Same g f := by
  obtain ⟨r, a, b⟩ := h
  exact ⟨r, a, Ev.step hf b⟩
theorem Same.now {α : Type} (r : α) : Same (fun _ => some r) (fun _ => some r) := ⟨r, Ev.now r, Ev.now r⟩
theorem if_dec {α : Type} {p : Prop} [Decidable p] (a b : α) : (if decide p = true then a else b) = if p then a else b := by
  by_cases h : p <;> simp [h]
theorem w00 : wrap64 0 = 0 := wr (by omega) (by omega)
theorem l00In_f (a b c : Int) : spec_l00In.f a b c = some (decide (b ≤ a ∧ a ≤ c)) := by
  unfold spec_l00In.f
  by_cases h : b ≤ a <;> simp [h]
theorem within_f (a b c : Int) : impl_within.f a b c = some (decide (b ≤ a ∧ a ≤ c)) := by
  unfold impl_within.f
  by_cases h : b ≤ a <;> simp [h]
theorem rd_lt {l : List Int} {i : Nat} (h : i < l.length) : rd l (i : Int) = l[i] := by
  unfold rd; simp [List.getD, h]
theorem eqInt64S_loop (a b : List Int) (hab : a.length = b.length) (hn : (a.length : Int) ≤ 4611686018427387904) (d : Nat) : ∀ (i : Nat), i ≤ a.length → a.length - i = d →
    Ev (fun k => laws_eqInt64S.l0 k a b (i : Int)) (decide (a.drop i = b.drop i)) := by
  induction d with
  | zero =>
    intro i hi hd
    refine Ev.step (f := fun _ => some (decide (a.drop i = b.drop i))) (fun k => ?_) (Ev.now _)
    simp only [laws_eqInt64S.l0]
    rw [if_neg (by omega), List.drop_eq_nil_of_le (by omega), List.drop_eq_nil_of_le (by omega)]; simp
  | succ d ih =>
    intro i hi hd
    have ha : i < a.length := by omega
    have hb : i < b.length := by omega
    by_cases e : a[i] = b[i]
    · refine Ev.step (fun k => ?_) (ev_id (ih (i + 1) (by omega) (by omega)) ?_)
      · simp only [laws_eqInt64S.l0]
        rw [if_pos (by omega), if_pos (by omega), if_pos (by omega), rd_lt ha, rd_lt hb, if_pos e, wr (by omega) (by omega)]; rfl
      · simp only [List.drop_eq_getElem_cons ha, List.drop_eq_getElem_cons hb, List.cons.injEq, e, true_and]
    · refine Ev.step (f := fun _ => some false) (fun k => ?_) (ev_id (Ev.now _) ?_)
      · simp only [laws_eqInt64S.l0]
        rw [if_pos (by omega), if_pos (by omega), if_pos (by omega), rd_lt ha, rd_lt hb, if_neg e]
      · simp only [List.drop_eq_getElem_cons ha, List.drop_eq_getElem_cons hb, List.cons.injEq, e, false_and, decide_false]
theorem eqInt64S_ev (a b : List Int) (hn : (a.length : Int) ≤ 4611686018427387904) : Ev (fun k => laws_eqInt64S.f k a b) (decide (a = b)) := by
  unfold laws_eqInt64S.f
  by_cases h : a.length = b.length
  · simp only [h, if_true]
    simpa using eqInt64S_loop a b h hn a.length 0 (by omega) (by omega)
  · have h' : ¬ (a.length : Int) = b.length := by omega
    simp only [if_neg h']
    have : a ≠ b := fun e => h (by rw [e])
    simpa [this] using Ev.now false
theorem eqInt64S_self (a : List Int) (hn : (a.length : Int) ≤ 4611686018427387904) : Ev (fun k => laws_eqInt64S.f k a a) true := by
  simpa using eqInt64S_ev a a hn
theorem markInt64S_loop (d : Nat) : ∀ (a p : List Int) (m : Int) (i : Nat), i + d = a.length → (a.length : Int) ≤ 4611686018427387904 → m = 1 + i → (∀ j (h : j < a.length), j < i → a[j] = 1 + (j : Int)) →
    ∃ r : List Int, Ev (fun k => laws_markInt64S.l0 k a m (i : Int)) (1 + (a.length : Int), r) ∧ r.length = a.length ∧ ∀ j (h : j < r.length), r[j] = 1 + (j : Int) := by
  induction d with
  | zero =>
    intro a p m i hi hn hm ha
    refine ⟨a, Ev.step (f := fun _ => some (1 + (a.length : Int), a)) (fun k => ?_) (Ev.now _), rfl, fun j h => ha j h (by omega)⟩
    simp only [laws_markInt64S.l0]
    rw [if_neg (by omega), show m = 1 + (a.length : Int) by omega]
  | succ d ih =>
    intro a p m i hi hn hm ha
    obtain ⟨r, h1, h2, h3⟩ := ih (a.set i m) p (m + 1) (i + 1) (by simp; omega) (by simpa using hn) (by omega) (by
      intro j h hj
      simp only [List.getElem_set]
      split
      · omega
      · exact ha j (by simpa using h) (by omega))
    simp only [List.length_set] at h1 h2
    refine ⟨r, Ev.step (fun k => ?_) h1, h2, h3⟩
    simp only [laws_markInt64S.l0]
    rw [if_pos (by omega), if_pos (by omega), wr (n := m + 1) (by omega) (by omega), wr (n := (i : Int) + 1) (by omega) (by omega)]; rfl
theorem heldInt64S_loop (a : List Int) (hn : (a.length : Int) ≤ 4611686018427387904) (ha : ∀ j (h : j < a.length), a[j] = 1 + (j : Int)) (d : Nat) : ∀ (i : Nat), i + d = a.length →
    Ev (fun k => laws_heldInt64S.l0 k a (1 + (i : Int)) (i : Int)) (1 + (a.length : Int)) := by
  induction d with
  | zero =>
    intro i hi
    refine Ev.step (f := fun _ => some (1 + (a.length : Int))) (fun k => ?_) (Ev.now _)
    simp only [laws_heldInt64S.l0]
    rw [if_neg (by omega), show i = a.length by omega]
  | succ d ih =>
    intro i hi
    refine Ev.step (fun k => ?_) (ih (i + 1) (by omega))
    simp only [laws_heldInt64S.l0]
    rw [if_pos (by omega), if_pos (by omega), rd_lt (by omega), if_pos (ha i (by omega)), wr (n := 1 + (i : Int) + 1) (by omega) (by omega), wr (n := (i : Int) + 1) (by omega) (by omega), show 1 + (i : Int) + 1 = 1 + ((i + 1 : Nat) : Int) by omega]; rfl
/-- What has been marked is held. -/
theorem markInt64S_ev (a : List Int) (hn : (a.length : Int) ≤ 4611686018427387904) :
    ∃ r : List Int, Ev (fun k => laws_markInt64S.f k a 1) (1 + (a.length : Int), r) ∧ Ev (fun k => laws_heldInt64S.f k r 1) (1 + (a.length : Int)) := by
  obtain ⟨r, h1, h2, h3⟩ := markInt64S_loop a.length a a 1 0 (by omega) hn (by omega) (fun j h hj => by omega)
  refine ⟨r, h1, ?_⟩
  have := heldInt64S_loop r (by omega) h3 r.length 0 (by omega)
  rw [h2] at this
  exact this
theorem toInt64S_loop (l : List Int) (hl : (l.length : Int) ≤ 140737488351232) (d : Nat) : ∀ (out rest : List Int) (i : Nat), out.length = i → rest.length = d → i + d = l.length →
    Ev (fun k => laws_toInt64S.l0 k l (out ++ rest) (i : Int)) (out ++ l.drop i) := by
  induction d with
  | zero =>
    intro out rest i ho hr hi
    refine Ev.step (f := fun _ => some (out ++ l.drop i)) (fun k => ?_) (Ev.now _)
    simp only [laws_toInt64S.l0]
    rw [if_neg (by omega), List.drop_eq_nil_of_le (by omega), List.length_eq_zero_iff.1 hr]
  | succ d ih =>
    intro out rest i ho hr hi
    have hil : i < l.length := by omega
    obtain ⟨y, rest, rfl⟩ : ∃ y r, rest = y :: r := by cases rest with | nil => simp at hr | cons y r => exact ⟨y, r, rfl⟩
    refine Ev.step (fun k => ?_) (ev_id (ih (out ++ [l[i]]) rest (i + 1) (by simp; omega) (by simpa using hr) (by omega)) ?_)
    · simp only [laws_toInt64S.l0]
      rw [if_pos (by omega), if_pos (by omega), if_pos (by simp; omega), rd_lt hil, wr (n := (i : Int) + 1) (by omega) (by omega)]
      have : (out ++ y :: rest).set (i : Int).toNat l[i] = out ++ [l[i]] ++ rest := by
        rw [Int.toNat_natCast, List.set_append_right _ _ (by omega), ho]; simp
      rw [this]; rfl
    · rw [List.drop_eq_getElem_cons hil]; simp only [List.append_assoc, List.cons_append, List.nil_append]
theorem toInt64S_ev (l : List Int) (hl : (l.length : Int) ≤ 35184372088832) : Ev (fun k => laws_toInt64S.f k l) l := by
  unfold laws_toInt64S.f
  have h0 : (0 : Int) ≤ (l.length : Int) := by omega
  have h1 : ((l.length : Int) : Int).toNat ≤ 35184372088832 := by omega
  simp only [if_pos h0, if_pos h1]
  have := toInt64S_loop l (by omega) l.length [] (List.replicate l.length 0) 0 rfl (by simp) (by omega)
  simpa using this
theorem markInt64S_from_loop (d : Nat) : ∀ (a : List Int) (m : Int) (i : Nat), i + d = a.length → (a.length : Int) ≤ 1073741824 → 0 ≤ m → m + d ≤ 4611686018427387904 →
    ∃ r : List Int, Ev (fun k => laws_markInt64S.l0 k a m (i : Int)) (m + d, r) := by
  induction d with
  | zero =>
    intro a m i hi hn h0 h1
    refine ⟨a, Ev.step (f := fun _ => some (m, a)) (fun k => ?_) (ev_id (Ev.now _) (by simp))⟩
    simp only [laws_markInt64S.l0]
    rw [if_neg (by omega)]
  | succ d ih =>
    intro a m i hi hn h0 h1
    obtain ⟨r, h⟩ := ih (a.set i m) (m + 1) (i + 1) (by simp; omega) (by simpa using hn) (by omega) (by omega)
    refine ⟨r, Ev.step (fun k => ?_) (ev_id h (by rw [Prod.mk.injEq]; exact ⟨by omega, rfl⟩))⟩
    simp only [laws_markInt64S.l0]
    rw [if_pos (by omega), if_pos (by omega), wr (n := m + 1) (by omega) (by omega), wr (n := (i : Int) + 1) (by omega) (by omega)]; rfl
theorem markInt64S_from (a : List Int) (m : Int) (hn : (a.length : Int) ≤ 1073741824) (h0 : 0 ≤ m) (h1 : m ≤ 1099511627776) : ∃ r : List Int, Ev (fun k => laws_markInt64S.f k a m) (m + a.length, r) := by
  obtain ⟨r, h⟩ := markInt64S_from_loop a.length a m 0 (by omega) hn h0 (by omega)
  exact ⟨r, h⟩
theorem allO_some {α : Type} (p : α → Bool) : ∀ l : List α, allO (fun x => some (p x)) l = some (l.all p)
  | [] => rfl
  | x :: l => by
    simp only [allO, Option.bind_some, List.all_cons, allO_some p l]
    cases p x <;> simp
theorem allG_some {α : Type} (p : α → Bool) (l : List α) (h : (l.length : Int) ≤ 4611686018427387904) : allG l (fun x => some (p x)) = some (l.all p) := by
  unfold allG; rw [if_pos h, allO_some]
abbrev LS := S107
abbrev IS := S105
def toS (x : LS) : IS := ⟨x.f0, x.f1⟩
theorem rdIS {l : List IS} {i : Nat} (h : i < l.length) : rd_T105 l (i : Int) = l[i] := by
  unfold rd_T105; simp [List.getD, h]
theorem rdLS {l : List LS} {i : Nat} (h : i < l.length) : rd_T107 l (i : Int) = l[i] := by
  unfold rd_T107; simp [List.getD, h]
theorem szStrand_f (l : List LS) (n : Int) (h0 : (l.length : Int) ≤ 140737488351232) (hn : 0 ≤ n ∧ n ≤ 1048576) : laws_szStrandS.f l n = some (if (l.length : Int) ≤ n then n - l.length else -1) := by
  unfold laws_szStrandS.f
  rw [wr (by omega) (by omega)]
  by_cases h : (l.length : Int) ≤ n
  · rw [if_neg (by omega), if_pos h]
  · rw [if_pos (by omega), if_neg h]
theorem toStrandS_loop (l : List LS) (hl : (l.length : Int) ≤ 140737488351232) (d : Nat) : ∀ (out rest : List IS) (i : Nat), out.length = i → rest.length = d → i + d = l.length →
    Ev (fun k => laws_toStrandS.l0 k l (out ++ rest) (i : Int)) (out ++ (l.drop i).map toS) := by
  induction d with
  | zero =>
    intro out rest i ho hr hi
    refine Ev.step (f := fun _ => some (out ++ (l.drop i).map toS)) (fun k => ?_) (Ev.now _)
    simp only [laws_toStrandS.l0]
    rw [if_neg (by omega), List.drop_eq_nil_of_le (by omega), List.length_eq_zero_iff.1 hr]; simp
  | succ d ih =>
    intro out rest i ho hr hi
    have hil : i < l.length := by omega
    obtain ⟨y, rest, rfl⟩ : ∃ y r, rest = y :: r := by cases rest with | nil => simp at hr | cons y r => exact ⟨y, r, rfl⟩
    refine Ev.step (fun k => ?_) (ev_id (ih (out ++ [toS l[i]]) rest (i + 1) (by simp; omega) (by simpa using hr) (by omega)) ?_)
    · simp only [laws_toStrandS.l0, laws_toStrand.f, Option.bind_some]
      rw [if_pos (by omega), if_pos (by omega), if_pos (by simp; omega), rdLS hil, wr (n := (i : Int) + 1) (by omega) (by omega)]
      have : (out ++ y :: rest).set (i : Int).toNat (⟨l[i].f0, l[i].f1⟩ : IS) = out ++ [toS l[i]] ++ rest := by
        rw [Int.toNat_natCast, List.set_append_right _ _ (by omega), ho]; simp [toS]
      rw [this]; rfl
    · rw [List.drop_eq_getElem_cons hil]; simp only [List.map_cons, List.append_assoc, List.cons_append, List.nil_append]
theorem toStrandS_ev (l : List LS) (hl : (l.length : Int) ≤ 140737488351232) (hl2 : l.length ≤ 46912496118442) : Ev (fun k => laws_toStrandS.f k l) (l.map toS) := by
  unfold laws_toStrandS.f
  have h0 : (0 : Int) ≤ (l.length : Int) := by omega
  have h1 : ((l.length : Int) : Int).toNat ≤ 70368744177664 := by omega
  simp only [if_pos h0, if_pos h1]
  have := toStrandS_loop l hl l.length [] (List.replicate l.length z105) 0 rfl (by simp) (by omega)
  simpa using this
theorem eqStrandS_loop (l : List IS) (hl : (l.length : Int) ≤ 140737488351232) (d : Nat) : ∀ (i : Nat), i + d = l.length → Ev (fun k => laws_eqStrandS.l0 k l l (i : Int)) true := by
  induction d with
  | zero =>
    intro i hi
    refine Ev.step (f := fun _ => some true) (fun k => ?_) (Ev.now _)
    simp only [laws_eqStrandS.l0]; rw [if_neg (by omega)]
  | succ d ih =>
    intro i hi
    refine Ev.step (fun k => ?_) (ih (i + 1) (by omega))
    simp only [laws_eqStrandS.l0, laws_eqStrand.f, if_true, Option.bind_some]
    rw [if_pos (by omega), if_pos (by omega), if_pos (by omega), wr (n := (i : Int) + 1) (by omega) (by omega)]; rfl
theorem eqStrandS_self (l : List IS) (hl : (l.length : Int) ≤ 140737488351232) : Ev (fun k => laws_eqStrandS.f k l l) true := by
  unfold laws_eqStrandS.f
  simp only [if_true]
  exact eqStrandS_loop l hl l.length 0 (by omega)
/-- What a valid strand is. -/
def vS (x : IS) : Bool := decide ((1 ≤ wrap64 x.f0 ∧ wrap64 x.f0 ≤ 2000) ∧ x.f1 < 6)
theorem vS_loop (l : List IS) (hl : (l.length : Int) ≤ 140737488351232) (d : Nat) : ∀ (i : Nat), i + d = l.length → Ev (fun k => spec_l04Strands.l0 k l (i : Int)) ((l.drop i).all vS) := by
  induction d with
  | zero =>
    intro i hi
    refine Ev.step (f := fun _ => some true) (fun k => ?_) (ev_id (Ev.now _) ?_)
    · simp only [spec_l04Strands.l0]; rw [if_neg (by omega)]
    · rw [List.drop_eq_nil_of_le (by omega)]; rfl
  | succ d ih =>
    intro i hi
    have hil : i < l.length := by omega
    rw [List.drop_eq_getElem_cons hil, List.all_cons]
    have hv : vS l[i] = decide ((1 ≤ wrap64 l[i].f0 ∧ wrap64 l[i].f0 ≤ 2000) ∧ l[i].f1 < 6) := rfl
    by_cases h1 : 1 ≤ wrap64 l[i].f0 ∧ wrap64 l[i].f0 ≤ 2000
    · by_cases h2 : l[i].f1 < 6
      · refine Ev.step (fun k => ?_) (ev_id (ih (i + 1) (by omega)) (by rw [hv, decide_eq_true ⟨h1, h2⟩, Bool.true_and]))
        simp only [spec_l04Strands.l0, rdIS hil, l00In_f, Option.bind_some, if_dec]
        rw [if_pos (by omega), if_pos (by omega), if_pos h1, if_neg (by omega), wr (n := (i : Int) + 1) (by omega) (by omega)]; rfl
      · refine Ev.step (f := fun _ => some false) (fun k => ?_) (ev_id (Ev.now _) (by rw [hv, decide_eq_false (fun h => h2 h.2), Bool.false_and]))
        simp only [spec_l04Strands.l0, rdIS hil, l00In_f, Option.bind_some, if_dec]
        rw [if_pos (by omega), if_pos (by omega), if_pos h1, if_pos (by omega)]
    · refine Ev.step (f := fun _ => some false) (fun k => ?_) (ev_id (Ev.now _) (by rw [hv, decide_eq_false (fun h => h1 h.1), Bool.false_and]))
      simp only [spec_l04Strands.l0, rdIS hil, l00In_f, Option.bind_some, if_dec]
      rw [if_pos (by omega), if_pos (by omega), if_neg h1]
theorem vS_ev (l : List IS) (hl : (l.length : Int) ≤ 140737488351232) : Ev (fun k => spec_l04Strands.f k l) (l.all vS) := by
  unfold spec_l04Strands.f
  have := vS_loop l hl l.length 0 (by omega)
  simpa using this
theorem vS_impl (x : IS) : impl_ValidStrands_1.f x.f0 x.f1 = some (vS x) := by
  unfold impl_ValidStrands_1.f vS
  simp only [within_f, Option.bind_some, if_dec]
  by_cases h1 : 1 ≤ wrap64 x.f0 ∧ wrap64 x.f0 ≤ 2000 <;> simp [h1]
theorem validS_f (l : List IS) (hl : (l.length : Int) ≤ 140737488351232) : impl_ValidStrands.f l = some (l.all vS) := by
  unfold impl_ValidStrands.f
  have e : (fun x_ : IS => impl_ValidStrands_1.f x_.f0 x_.f1) = fun x => some (vS x) := funext vS_impl
  show (allG l _).bind _ = _
  rw [e, allG_some vS l (by omega)]; rfl
theorem markStrandS_loop (d : Nat) : ∀ (a : List IS) (m : Int) (i : Nat), i + d = a.length → (a.length : Int) ≤ 1073741824 → 0 ≤ m → m + 2 * d ≤ 4611686018427387904 →
    ∃ r : List IS, Ev (fun k => laws_markStrandS.l0 k a m (i : Int)) (m + 2 * d, r) := by
  induction d with
  | zero =>
    intro a m i hi hn h0 h1
    refine ⟨a, Ev.step (f := fun _ => some (m, a)) (fun k => ?_) (ev_id (Ev.now _) (by simp))⟩
    simp only [laws_markStrandS.l0]
    rw [if_neg (by omega)]
  | succ d ih =>
    intro a m i hi hn h0 h1
    have w1 : wrap64 (m + 1) = m + 1 := wr (by omega) (by omega)
    have w2 : wrap64 (m + 1 + 1) = m + 2 := by rw [wr (by omega) (by omega)]; omega
    have w3 : wrap64 ((i : Int) + 1) = ((i + 1 : Nat) : Int) := by rw [wr (by omega) (by omega)]; omega
    obtain ⟨r, h⟩ := ih ((a.set i (⟨IntKind.i16.wrap m, (rd_T105 a i).f1⟩ : IS)).set i (⟨(rd_T105 (a.set i (⟨IntKind.i16.wrap m, (rd_T105 a i).f1⟩ : IS)) i).f0, (m + 1) % 256⟩ : IS)) (m + 2) (i + 1) (by simp; omega) (by simpa using hn) (by omega) (by omega)
    refine ⟨r, Ev.step (fun k => ?_) (ev_id h (by rw [Prod.mk.injEq]; exact ⟨by omega, rfl⟩))⟩
    simp only [laws_markStrandS.l0, Option.bind_some, w1, w2, w3, Int.toNat_natCast]
    rw [if_pos (by omega), if_pos (by omega)]
theorem markStrandS_ev (a : List IS) (hn : (a.length : Int) ≤ 1073741824) : ∃ r : List IS, Ev (fun k => laws_markStrandS.f k a 1) (1 + 2 * (a.length : Int), r) := by
  obtain ⟨r, h⟩ := markStrandS_loop a.length a 1 0 (by omega) hn (by omega) (by omega)
  exact ⟨r, h⟩
def isR (x : Int) : Bool := decide (0 ≤ x ∧ x ≤ 7)
/-- The code for the numbers of reels. -/
def toldC (l : List Int) : Int := if (l.length : Int) > 8 then 3 else if l.all isR = true then 0 else 2
theorem told_loop (l : List Int) (hl : (l.length : Int) ≤ 140737488351232) (d : Nat) : ∀ (i : Nat), i + d = l.length → Ev (fun k => spec_l04Told.l0 k l (i : Int)) (if (l.drop i).all isR = true then 0 else 2) := by
  induction d with
  | zero =>
    intro i hi
    refine Ev.step (f := fun _ => some 0) (fun k => ?_) (ev_id (Ev.now _) ?_)
    · simp only [spec_l04Told.l0]; rw [if_neg (by omega)]
    · rw [List.drop_eq_nil_of_le (by omega)]; rfl
  | succ d ih =>
    intro i hi
    have hil : i < l.length := by omega
    rw [List.drop_eq_getElem_cons hil, List.all_cons]
    by_cases h1 : 0 ≤ l[i] ∧ l[i] ≤ 7
    · refine Ev.step (fun k => ?_) (ev_id (ih (i + 1) (by omega)) (by rw [show isR l[i] = true from decide_eq_true h1, Bool.true_and]))
      simp only [spec_l04Told.l0, spec_l04Number.f, rd_lt hil, l00In_f, Option.bind_some, if_dec]
      rw [if_pos (by omega), if_pos (by omega), if_pos h1, wr (n := (i : Int) + 1) (by omega) (by omega)]; rfl
    · refine Ev.step (f := fun _ => some 2) (fun k => ?_) (ev_id (Ev.now _) (by rw [show isR l[i] = false from decide_eq_false h1, Bool.false_and]; rfl))
      simp only [spec_l04Told.l0, spec_l04Number.f, rd_lt hil, l00In_f, Option.bind_some, if_dec]
      rw [if_pos (by omega), if_pos (by omega), if_neg h1]
theorem told_ev (l : List Int) (hl : (l.length : Int) ≤ 140737488351232) : Ev (fun k => spec_l04Told.f k l) (toldC l) := by
  unfold spec_l04Told.f toldC
  by_cases h : (l.length : Int) > 8
  · simp only [if_pos h]; exact Ev.now _
  · simp only [if_neg h]
    have := told_loop l hl l.length 0 (by omega)
    simpa using this
theorem isR_f (x : Int) : impl_isReel.f x = some (isR x) := by
  unfold impl_isReel.f isR; rw [within_f]; rfl
/-- Is nothing less than nothing left? -/
def nn (x : Int) : Bool := decide (x ≥ 0)
def endL (x : List Int) : List Int × Int := if x.all nn = true then (x, 0) else ([], 4)
theorem left_end (x : List Int) (hx : x.length ≤ 8) (d : Nat) : ∀ (i : Nat), i + d = x.length → (x.take i).all nn = true → Ev (fun k => spec_LeftOn.l2 k x (i : Int)) (endL x) := by
  induction d with
  | zero =>
    intro i hi h
    refine Ev.step (f := fun _ => some (x, 0)) (fun k => ?_) (ev_id (Ev.now _) ?_)
    · simp only [spec_LeftOn.l2]; rw [if_neg (by omega)]
    · rw [List.take_of_length_le (by omega)] at h; unfold endL; rw [if_pos h]
  | succ d ih =>
    intro i hi h
    have hil : i < x.length := by omega
    by_cases hn : x[i] < 0
    · refine Ev.step (f := fun _ => some ([], 4)) (fun k => ?_) (ev_id (Ev.now _) ?_)
      · simp only [spec_LeftOn.l2, rd_lt hil]; rw [if_pos (by omega), if_pos (by omega), if_pos hn]
      · unfold endL
        rw [if_neg]
        intro ha
        have := List.all_eq_true.1 ha x[i] (List.getElem_mem _)
        unfold nn at this
        have := of_decide_eq_true this
        omega
    · refine Ev.step (fun k => ?_) (ih (i + 1) (by omega) ?_)
      · simp only [spec_LeftOn.l2, rd_lt hil]; rw [if_pos (by omega), if_pos (by omega), if_neg hn, wr (n := (i : Int) + 1) (by omega) (by omega)]; rfl
      · rw [List.take_succ_eq_append_getElem hil, List.all_append, h]
        simp only [List.all_cons, List.all_nil, Bool.and_true, Bool.true_and]
        exact decide_eq_true (by omega)
theorem left_in (hold : Int) (l : List IS) (m : List Int) (hl : l.length ≤ 8) (hm : m.length = l.length) (i : Nat) (hi : i < l.length) (hr : 0 ≤ m[i]'(by omega) ∧ m[i]'(by omega) ≤ 7)
    (K : ∀ out : List Int, out.length ≤ 8 → ∃ r : List Int × Int, Ev (fun k => spec_LeftOn.l0 k hold l m out ((i + 1 : Nat) : Int)) r ∧ Ev (fun k => impl_LeftOn.l0 k hold m out l (l.length : Int) ((i + 1 : Nat) : Int)) r ∧ r.1.length ≤ 8) (d : Nat) :
    ∀ out : List Int, out.length ≤ 8 → ((m[i]'(by omega)) + 1 - out.length).toNat = d →
      ∃ r : List Int × Int, Ev (fun k => spec_LeftOn.l1 k hold l m out (i : Int)) r ∧ Ev (fun k => impl_LeftOn.l1 k hold m out (i : Int) l (l.length : Int) (i : Int) l[i].f0 l[i].f1) r ∧ r.1.length ≤ 8 := by
  have him : i < m.length := by omega
  have h0 : (0 : Int) ≤ (i : Int) := by omega
  have h1 : (i : Int) < (m.length : Int) := by omega
  have h2 : (i : Int) < (l.length : Int) := by omega
  have wi : wrap64 ((i : Int) + 1) = ((i + 1 : Nat) : Int) := by rw [wr (by omega) (by omega)]; omega
  induction d with
  | zero =>
    intro out ho hd
    have hlt : m[i] < (out.length : Int) := by omega
    have hnl : ¬ (out.length : Int) ≤ m[i] := by omega
    obtain ⟨r, r1, r2, r3⟩ := K (out.set m[i].toNat (wrap64 (rd out m[i] - wrap64 l[i].f0))) (by simpa using ho)
    refine ⟨r, Ev.step (fun k => ?_) r1, Ev.step (fun k => ?_) r2, r3⟩
    · simp only [spec_LeftOn.l1, rd_lt him, rdIS hi]
      rw [if_pos h0, if_pos h1, if_neg hnl, if_pos hr.1, if_pos hlt, if_pos h2, wi]
    · simp only [impl_LeftOn.l1, impl_length_int64.f, Option.bind_some, rd_lt him]
      rw [if_pos h0, if_pos h1, if_neg hnl, if_pos hr.1, if_pos hlt, wi]
  | succ d ih =>
    intro out ho hd
    have hle : (out.length : Int) ≤ m[i] := by omega
    obtain ⟨r, r1, r2, r3⟩ := ih (out ++ [hold]) (by simp; omega) (by simp; omega)
    refine ⟨r, Ev.step (fun k => ?_) r1, Ev.step (fun k => ?_) r2, r3⟩
    · simp only [spec_LeftOn.l1, rd_lt him]
      rw [if_pos h0, if_pos h1, if_pos hle, if_pos (by omega)]
    · simp only [impl_LeftOn.l1, impl_length_int64.f, Option.bind_some, rd_lt him]
      rw [if_pos h0, if_pos h1, if_pos hle, if_pos (by omega)]
theorem nn_f (x : Int) : impl_LeftOn_1.f x = some (nn x) := rfl
theorem left_out (hold : Int) (l : List IS) (m : List Int) (hl : l.length ≤ 8) (hm : m.length = l.length) (hr : ∀ (i : Nat) (h : i < m.length), 0 ≤ m[i] ∧ m[i] ≤ 7) (d : Nat) : ∀ (i : Nat) (out : List Int), i + d = l.length → out.length ≤ 8 →
    ∃ r : List Int × Int, Ev (fun k => spec_LeftOn.l0 k hold l m out (i : Int)) r ∧ Ev (fun k => impl_LeftOn.l0 k hold m out l (l.length : Int) (i : Int)) r ∧ r.1.length ≤ 8 := by
  induction d with
  | zero =>
    intro i out hi ho
    have he : (endL out).1.length ≤ 8 := by unfold endL; split <;> simp [ho]
    refine ⟨endL out, Ev.step (fun k => ?_) (left_end out ho out.length 0 (by omega) rfl), Ev.step (f := fun _ => some (endL out)) (fun k => ?_) (Ev.now _), he⟩
    · simp only [spec_LeftOn.l0]; rw [if_neg (by omega)]; rfl
    · simp only [impl_LeftOn.l0]
      rw [if_neg (by omega)]
      have e : (fun x_ : Int => impl_LeftOn_1.f x_) = fun x => some (nn x) := funext nn_f
      show (allG out _).bind _ = _
      rw [e, allG_some nn out (by omega)]
      unfold endL
      cases out.all nn <;> rfl
  | succ d ih =>
    intro i out hi ho
    have hil : i < l.length := by omega
    obtain ⟨r, r1, r2, r3⟩ := left_in hold l m hl hm i hil (hr i (by omega)) (fun out h => ih (i + 1) out (by omega) h) _ out ho rfl
    refine ⟨r, Ev.step (fun k => ?_) r1, Ev.step (fun k => ?_) r2, r3⟩
    · simp only [spec_LeftOn.l0]; rw [if_pos (by omega)]
    · simp only [impl_LeftOn.l0, rdIS hil]; rw [if_pos (by omega), if_pos (by omega), if_pos (by omega)]
theorem left_same (hold : Int) (l : List IS) (m : List Int) (hl : (l.length : Int) ≤ 1048576) (hm : (m.length : Int) ≤ 1048576) : ∃ r : List Int × Int, Ev (fun k => spec_LeftOn.f k hold l m) r ∧ Ev (fun k => impl_LeftOn.f k hold l m) r ∧ r.1.length ≤ 8 := by
  unfold spec_LeftOn.f impl_LeftOn.f
  have eh : spec_l04Hold.f hold = some (decide (1 ≤ hold ∧ hold ≤ 2000)) := by unfold spec_l04Hold.f; rw [l00In_f]; rfl
  have er : (fun x_ : Int => impl_isReel.f x_) = fun x => some (isR x) := funext isR_f
  have ea : impl_areAll_int64.f m (fun x_ => impl_isReel.f x_) = some (m.all isR) := by show allG m _ = _; rw [er, allG_some isR m (by omega)]
  simp only [validS_f l (by omega), eh, within_f, ea, Option.bind_some, if_dec]
  have ve := vS_ev l (by omega)
  by_cases hv : l.all vS = true
  · rw [hv] at ve
    by_cases h8 : (l.length : Int) > 8
    · exact ⟨([], 3), Ev.bind ve (by simp only [if_true, if_pos h8]; exact Ev.now _), by simp only [if_pos hv, if_pos h8]; exact Ev.now _, by simp⟩
    · by_cases hh : 1 ≤ hold ∧ hold ≤ 2000
      · by_cases hm2 : (m.length : Int) = (l.length : Int)
        · have te := told_ev m (by omega)
          have tc : toldC m = if m.all isR = true then 0 else 2 := by unfold toldC; rw [if_neg (by omega)]
          by_cases hr : m.all isR = true
          · rw [tc, if_pos hr] at te
            have hr' : ∀ (i : Nat) (h : i < m.length), 0 ≤ m[i] ∧ m[i] ≤ 7 := by
              intro i h
              have := List.all_eq_true.1 hr m[i] (List.getElem_mem _)
              exact of_decide_eq_true this
            obtain ⟨r, r1, r2, r3⟩ := left_out hold l m (by omega) (by omega) hr' l.length 0 [] (by omega) (by simp)
            refine ⟨r, Ev.bind ve ?_, ?_, r3⟩
            · simp only [if_true, if_neg h8, if_pos hh, if_pos hm2]
              exact Ev.bind te (by simp only [if_true]; exact r1)
            · simp only [if_pos hv, if_neg h8, if_pos hh, if_pos hm2, if_pos hr]; exact r2
          · rw [tc, if_neg hr] at te
            refine ⟨([], 4), Ev.bind ve ?_, ?_, by simp⟩
            · simp only [if_true, if_neg h8, if_pos hh, if_pos hm2]
              exact Ev.bind te (by simp only [show ¬ ((2 : Int) = 0) by omega, if_false]; exact Ev.now _)
            · simp only [if_pos hv, if_neg h8, if_pos hh, if_pos hm2, if_neg hr]; exact Ev.now _
        · exact ⟨([], 4), Ev.bind ve (by simp only [if_true, if_neg h8, if_pos hh, if_neg hm2]; exact Ev.now _), by simp only [if_pos hv, if_neg h8, if_pos hh, if_neg hm2]; exact Ev.now _, by simp⟩
      · exact ⟨([], 2), Ev.bind ve (by simp only [if_true, if_neg h8, if_neg hh]; exact Ev.now _), by simp only [if_pos hv, if_neg h8, if_neg hh]; exact Ev.now _, by simp⟩
  · have hv' : l.all vS = false := by simpa using hv
    rw [hv'] at ve
    exact ⟨([], 1), Ev.bind ve (by simp only [Bool.false_eq_true, if_false]; exact Ev.now _), by simp only [if_neg hv]; exact Ev.now _, by simp⟩
theorem FnExactLeftOn : laws_FnExactLeftOn.Pure := by
  intro hold l m _ ⟨hl, hs⟩ ⟨hm, _⟩
  refine Ev.rounds ?_
  unfold laws_FnExactLeftOn.f
  by_cases hM : (m.length : Int) > 1048576
  · simp only [if_pos hM]; exact Ev.now _
  · simp only [if_neg hM, szStrand_f l 1048576 (by omega) (by omega), Option.bind_some]
    by_cases h : (l.length : Int) ≤ 1048576
    · have hn : ¬ (1048576 - (l.length : Int) < 0) := by omega
      simp only [if_pos h, if_neg hn]
      have ts := toStrandS_ev l (by omega) (by omega)
      have ti := toInt64S_ev m (by omega)
      obtain ⟨⟨w, c⟩, f1, f2, fl⟩ := left_same hold (l.map toS) m (by simpa using h) (by omega)
      have hw : (w.length : Int) ≤ 4611686018427387904 := by simp only at fl; omega
      obtain ⟨s, m1, m2⟩ := markInt64S_ev w hw
      obtain ⟨s2, n2⟩ := markStrandS_ev (l.map toS) (by simp; omega)
      obtain ⟨s3, n3⟩ := markInt64S_from m (1 + 2 * ((l.map toS).length : Int)) (by omega) (by omega) (by simp; omega)
      have hneg1 : ¬ (1 + 2 * ((l.map toS).length : Int) + (m.length : Int) < 0) := by omega
      have hneg2 : ¬ (1 + (w.length : Int) < 0) := by omega
      refine Ev.bind ts (Ev.bind ti (Ev.bind f1 (Ev.bind ts (Ev.bind ti (Ev.bind f2 (Ev.bind (eqInt64S_self w hw) ?_))))))
      simp only [if_true, bne_self_eq_false]
      refine Ev.step (fun k => by simp only [laws_FnExactLeftOn.j0, Bool.false_eq_true, if_false]; rfl) (Ev.bind ts (Ev.bind (eqStrandS_self (l.map toS) (by simp; omega)) ?_))
      simp only [if_true]
      refine Ev.bind ti (Ev.bind (eqInt64S_self m (by omega)) ?_)
      simp only [if_true]
      refine Ev.bind n2 (Ev.bind n3 ?_)
      simp only [if_neg hneg1]
      refine Ev.bind (eqInt64S_self w hw) ?_
      simp only [if_true, bne_self_eq_false]
      refine Ev.step (fun k => by simp only [laws_FnExactLeftOn.j1, Bool.false_eq_true, if_false]; rfl) (Ev.bind m1 (Ev.bind m2 ?_))
      simp only [if_neg hneg2, if_true]
      refine Ev.bind ts (Ev.bind ti (Ev.bind f2 (Ev.bind (eqInt64S_self w hw) ?_)))
      simp only [if_true, bne_self_eq_false]
      refine Ev.step (fun k => by simp only [laws_FnExactLeftOn.j2, Bool.false_eq_true, if_false]; rfl) (Ev.bind m2 ?_)
      simp only [if_neg hneg2, if_true]; exact Ev.now _
    · simp only [if_neg h, show ((-1 : Int) < 0) from by omega, if_true]; exact Ev.now _
end Go.Proofs.Ytppmdfcfbldmjaa.Pure
