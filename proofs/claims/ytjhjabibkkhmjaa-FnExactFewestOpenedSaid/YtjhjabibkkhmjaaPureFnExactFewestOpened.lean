/- The statement of FnExactFewestOpened, over numbers and lists alone; no conditions. -/
import Derived.Test.YtjhjabibkkhmjaaXFnExactFewestOpenedx6
namespace Go.Proofs.Ytjhjabibkkhmjaa.Pure
open Go.RowKit Go.Proofs.Ytjhjabibkkhmjaa.XFnExactFewestOpened Go.Proofs.YtjhjabibkkhmjaaW.PrintWords Go.Proofs.YtjhjabibkkhmjaaW.PrintLast
set_option linter.unusedVariables false
set_option linter.unusedSimpArgs false
theorem wr {n : Int} (h0 : -9223372036854775808 ≤ n) (h1 : n ≤ 9223372036854775807) : wrap64 n = n := by
  unfold wrap64; omega
theorem wf64 {a : Int} (h : (Lit.int .i64 a).wf = true) : -9223372036854775808 ≤ a ∧ a ≤ 9223372036854775807 := by
  simp only [Lit.wf, IntKind.min, IntKind.max, IntKind.signed, IntKind.bits, Bool.and_eq_true, decide_eq_true_eq, if_true] at h
  omega
theorem ev_id {α : Type} {g : Nat → Option α} {r s : α} (h : Ev g r) (e : r = s) : Ev g s := e ▸ h
theorem ev_const {α : Type} {o : Option α} {r : α} (h : o = some r) : Ev (fun _ => o) r := ⟨0, fun _ _ => h⟩
theorem ev_fun {α : Type} {g : Nat → Option α} {r s : α} (h : Ev g r) (k : Ev g s) : r = s := by
  obtain ⟨a, h⟩ := h
  obtain ⟨b, k⟩ := k
  have x := h (max a b) (by omega)
  have y := k (max a b) (by omega)
  rw [x] at y; exact Option.some.inj y
/-- Both come to one answer. -/
def Same {α : Type} (g f : Nat → Option α) : Prop := ∃ r, Ev g r ∧ Ev f r
theorem Same.step {α : Type} {g f g' f' : Nat → Option α} (hg : ∀ k, g (k + 1) = g' k) (hf : ∀ k, f (k + 1) = f' k) (h : Same g' f') : Same g f := by
  obtain ⟨r, a, b⟩ := h
  exact ⟨r, Ev.step hg a, Ev.step hf b⟩
theorem Same.left {α : Type} {g f g' : Nat → Option α} (hg : ∀ k, g (k + 1) = g' k) (h : Same g' f) : Same g f := by
  obtain ⟨r, a, b⟩ := h
  exact ⟨r, Ev.step hg a, b⟩
theorem Same.right {α : Type} {g f f' : Nat → Option α} (hf : ∀ k, f (k + 1) = f' k) (h : Same g f') : Same g f := by
  obtain ⟨r, a, b⟩ := h
  exact ⟨r, a, Ev.step hf b⟩
theorem Same.now {α : Type} (r : α) : Same (fun _ => some r) (fun _ => some r) := ⟨r, Ev.now r, Ev.now r⟩
theorem if_dec {α : Type} {p : Prop} [Decidable p] (a b : α) : (if decide p = true then a else b) = if p then a else b := by
  by_cases h : p <;> simp [h]
theorem w00 : wrap64 0 = 0 := wr (by omega) (by omega)
theorem l00In_f (a b c : Int) : spec_l00In.f a b c = some (decide (b ≤ a ∧ a ≤ c)) := by
  unfold spec_l00In.f
  by_cases h : b ≤ a <;> simp [h]
theorem within_f (a b c : Int) : impl_within.f a b c = some (decide (b ≤ a ∧ a ≤ c)) := by
  unfold impl_within.f
  by_cases h : b ≤ a <;> simp [h]
theorem rd_lt {l : List Int} {i : Nat} (h : i < l.length) : rd l (i : Int) = l[i] := by
  unfold rd; simp [List.getD, h]
theorem eqInt64S_loop (a b : List Int) (hab : a.length = b.length) (hn : (a.length : Int) ≤ 4611686018427387904) (d : Nat) : ∀ (i : Nat), i ≤ a.length → a.length - i = d →
    Ev (fun k => laws_eqInt64S.l0 k a b (i : Int)) (decide (a.drop i = b.drop i)) := by
  induction d with
  | zero =>
    intro i hi hd
    refine Ev.step (f := fun _ => some (decide (a.drop i = b.drop i))) (fun k => ?_) (Ev.now _)
    simp only [laws_eqInt64S.l0]
    rw [if_neg (by omega), List.drop_eq_nil_of_le (by omega), List.drop_eq_nil_of_le (by omega)]; simp
  | succ d ih =>
    intro i hi hd
    have ha : i < a.length := by omega
    have hb : i < b.length := by omega
    by_cases e : a[i] = b[i]
    · refine Ev.step (fun k => ?_) (ev_id (ih (i + 1) (by omega) (by omega)) ?_)
      · simp only [laws_eqInt64S.l0]
        rw [if_pos (by omega), if_pos (by omega), if_pos (by omega), rd_lt ha, rd_lt hb, if_pos e, wr (by omega) (by omega)]; rfl
      · simp only [List.drop_eq_getElem_cons ha, List.drop_eq_getElem_cons hb, List.cons.injEq, e, true_and]
    · refine Ev.step (f := fun _ => some false) (fun k => ?_) (ev_id (Ev.now _) ?_)
      · simp only [laws_eqInt64S.l0]
        rw [if_pos (by omega), if_pos (by omega), if_pos (by omega), rd_lt ha, rd_lt hb, if_neg e]
      · simp only [List.drop_eq_getElem_cons ha, List.drop_eq_getElem_cons hb, List.cons.injEq, e, false_and, decide_false]
theorem eqInt64S_ev (a b : List Int) (hn : (a.length : Int) ≤ 4611686018427387904) : Ev (fun k => laws_eqInt64S.f k a b) (decide (a = b)) := by
  unfold laws_eqInt64S.f
  by_cases h : a.length = b.length
  · simp only [h, if_true]
    simpa using eqInt64S_loop a b h hn a.length 0 (by omega) (by omega)
  · have h' : ¬ (a.length : Int) = b.length := by omega
    simp only [if_neg h']
    have : a ≠ b := fun e => h (by rw [e])
    simpa [this] using Ev.now false
theorem eqInt64S_self (a : List Int) (hn : (a.length : Int) ≤ 4611686018427387904) : Ev (fun k => laws_eqInt64S.f k a a) true := by
  simpa using eqInt64S_ev a a hn
theorem markInt64S_loop (d : Nat) : ∀ (a p : List Int) (m : Int) (i : Nat), i + d = a.length → (a.length : Int) ≤ 4611686018427387904 → m = 1 + i → (∀ j (h : j < a.length), j < i → a[j] = 1 + (j : Int)) →
    ∃ r : List Int, Ev (fun k => laws_markInt64S.l0 k a m (i : Int)) (1 + (a.length : Int), r) ∧ r.length = a.length ∧ ∀ j (h : j < r.length), r[j] = 1 + (j : Int) := by
  induction d with
  | zero =>
    intro a p m i hi hn hm ha
    refine ⟨a, Ev.step (f := fun _ => some (1 + (a.length : Int), a)) (fun k => ?_) (Ev.now _), rfl, fun j h => ha j h (by omega)⟩
    simp only [laws_markInt64S.l0]
    rw [if_neg (by omega), show m = 1 + (a.length : Int) by omega]
  | succ d ih =>
    intro a p m i hi hn hm ha
    obtain ⟨r, h1, h2, h3⟩ := ih (a.set i m) p (m + 1) (i + 1) (by simp; omega) (by simpa using hn) (by omega) (by
      intro j h hj
      simp only [List.getElem_set]
      split
      · omega
      · exact ha j (by simpa using h) (by omega))
    simp only [List.length_set] at h1 h2
    refine ⟨r, Ev.step (fun k => ?_) h1, h2, h3⟩
    simp only [laws_markInt64S.l0]
    rw [if_pos (by omega), if_pos (by omega), wr (n := m + 1) (by omega) (by omega), wr (n := (i : Int) + 1) (by omega) (by omega)]; rfl
theorem heldInt64S_loop (a : List Int) (hn : (a.length : Int) ≤ 4611686018427387904) (ha : ∀ j (h : j < a.length), a[j] = 1 + (j : Int)) (d : Nat) : ∀ (i : Nat), i + d = a.length →
    Ev (fun k => laws_heldInt64S.l0 k a (1 + (i : Int)) (i : Int)) (1 + (a.length : Int)) := by
  induction d with
  | zero =>
    intro i hi
    refine Ev.step (f := fun _ => some (1 + (a.length : Int))) (fun k => ?_) (Ev.now _)
    simp only [laws_heldInt64S.l0]
    rw [if_neg (by omega), show i = a.length by omega]
  | succ d ih =>
    intro i hi
    refine Ev.step (fun k => ?_) (ih (i + 1) (by omega))
    simp only [laws_heldInt64S.l0]
    rw [if_pos (by omega), if_pos (by omega), rd_lt (by omega), if_pos (ha i (by omega)), wr (n := 1 + (i : Int) + 1) (by omega) (by omega), wr (n := (i : Int) + 1) (by omega) (by omega), show 1 + (i : Int) + 1 = 1 + ((i + 1 : Nat) : Int) by omega]; rfl
/-- What has been marked is held. -/
theorem markInt64S_ev (a : List Int) (hn : (a.length : Int) ≤ 4611686018427387904) :
    ∃ r : List Int, Ev (fun k => laws_markInt64S.f k a 1) (1 + (a.length : Int), r) ∧ Ev (fun k => laws_heldInt64S.f k r 1) (1 + (a.length : Int)) := by
  obtain ⟨r, h1, h2, h3⟩ := markInt64S_loop a.length a a 1 0 (by omega) hn (by omega) (fun j h hj => by omega)
  refine ⟨r, h1, ?_⟩
  have := heldInt64S_loop r (by omega) h3 r.length 0 (by omega)
  rw [h2] at this
  exact this
theorem toInt64S_loop (l : List Int) (hl : (l.length : Int) ≤ 140737488351232) (d : Nat) : ∀ (out rest : List Int) (i : Nat), out.length = i → rest.length = d → i + d = l.length →
    Ev (fun k => laws_toInt64S.l0 k l (out ++ rest) (i : Int)) (out ++ l.drop i) := by
  induction d with
  | zero =>
    intro out rest i ho hr hi
    refine Ev.step (f := fun _ => some (out ++ l.drop i)) (fun k => ?_) (Ev.now _)
    simp only [laws_toInt64S.l0]
    rw [if_neg (by omega), List.drop_eq_nil_of_le (by omega), List.length_eq_zero_iff.1 hr]
  | succ d ih =>
    intro out rest i ho hr hi
    have hil : i < l.length := by omega
    obtain ⟨y, rest, rfl⟩ : ∃ y r, rest = y :: r := by cases rest with | nil => simp at hr | cons y r => exact ⟨y, r, rfl⟩
    refine Ev.step (fun k => ?_) (ev_id (ih (out ++ [l[i]]) rest (i + 1) (by simp; omega) (by simpa using hr) (by omega)) ?_)
    · simp only [laws_toInt64S.l0]
      rw [if_pos (by omega), if_pos (by omega), if_pos (by simp; omega), rd_lt hil, wr (n := (i : Int) + 1) (by omega) (by omega)]
      have : (out ++ y :: rest).set (i : Int).toNat l[i] = out ++ [l[i]] ++ rest := by
        rw [Int.toNat_natCast, List.set_append_right _ _ (by omega), ho]; simp
      rw [this]; rfl
    · rw [List.drop_eq_getElem_cons hil]; simp only [List.append_assoc, List.cons_append, List.nil_append]
theorem toInt64S_ev (l : List Int) (hl : (l.length : Int) ≤ 35184372088832) : Ev (fun k => laws_toInt64S.f k l) l := by
  unfold laws_toInt64S.f
  have h0 : (0 : Int) ≤ (l.length : Int) := by omega
  have h1 : ((l.length : Int) : Int).toNat ≤ 35184372088832 := by omega
  simp only [if_pos h0, if_pos h1]
  have := toInt64S_loop l (by omega) l.length [] (List.replicate l.length 0) 0 rfl (by simp) (by omega)
  simpa using this
theorem markInt64S_from_loop (d : Nat) : ∀ (a : List Int) (m : Int) (i : Nat), i + d = a.length → (a.length : Int) ≤ 1073741824 → 0 ≤ m → m + d ≤ 4611686018427387904 →
    ∃ r : List Int, Ev (fun k => laws_markInt64S.l0 k a m (i : Int)) (m + d, r) := by
  induction d with
  | zero =>
    intro a m i hi hn h0 h1
    refine ⟨a, Ev.step (f := fun _ => some (m, a)) (fun k => ?_) (ev_id (Ev.now _) (by simp))⟩
    simp only [laws_markInt64S.l0]
    rw [if_neg (by omega)]
  | succ d ih =>
    intro a m i hi hn h0 h1
    obtain ⟨r, h⟩ := ih (a.set i m) (m + 1) (i + 1) (by simp; omega) (by simpa using hn) (by omega) (by omega)
    refine ⟨r, Ev.step (fun k => ?_) (ev_id h (by rw [Prod.mk.injEq]; exact ⟨by omega, rfl⟩))⟩
    simp only [laws_markInt64S.l0]
    rw [if_pos (by omega), if_pos (by omega), wr (n := m + 1) (by omega) (by omega), wr (n := (i : Int) + 1) (by omega) (by omega)]; rfl
theorem markInt64S_from (a : List Int) (m : Int) (hn : (a.length : Int) ≤ 1073741824) (h0 : 0 ≤ m) (h1 : m ≤ 1099511627776) : ∃ r : List Int, Ev (fun k => laws_markInt64S.f k a m) (m + a.length, r) := by
  obtain ⟨r, h⟩ := markInt64S_from_loop a.length a m 0 (by omega) hn h0 (by omega)
  exact ⟨r, h⟩
theorem allO_some {α : Type} (p : α → Bool) : ∀ l : List α, allO (fun x => some (p x)) l = some (l.all p)
  | [] => rfl
  | x :: l => by
    simp only [allO, Option.bind_some, List.all_cons, allO_some p l]
    cases p x <;> simp
theorem allG_some {α : Type} (p : α → Bool) (l : List α) (h : (l.length : Int) ≤ 4611686018427387904) : allG l (fun x => some (p x)) = some (l.all p) := by
  unfold allG; rw [if_pos h, allO_some]
abbrev LY := S116
abbrev IY := S88
def toY (x : LY) : IY := ⟨x.f0, x.f1, x.f2⟩
theorem rdIY {l : List IY} {i : Nat} (h : i < l.length) : rd_T88 l (i : Int) = l[i] := by
  unfold rd_T88; simp [List.getD, h]
theorem rdLY {l : List LY} {i : Nat} (h : i < l.length) : rd_T116 l (i : Int) = l[i] := by
  unfold rd_T116; simp [List.getD, h]
theorem szYarn_f (l : List LY) (n : Int) (h0 : (l.length : Int) ≤ 140737488351232) (hn : 0 ≤ n ∧ n ≤ 1048576) : laws_szYarnS.f l n = some (if (l.length : Int) ≤ n then n - l.length else -1) := by
  unfold laws_szYarnS.f
  rw [wr (by omega) (by omega)]
  by_cases h : (l.length : Int) ≤ n
  · rw [if_neg (by omega), if_pos h]
  · rw [if_pos (by omega), if_neg h]
theorem toYarnS_loop (l : List LY) (hl : (l.length : Int) ≤ 140737488351232) (d : Nat) : ∀ (out rest : List IY) (i : Nat), out.length = i → rest.length = d → i + d = l.length →
    Ev (fun k => laws_toYarnS.l0 k l (out ++ rest) (i : Int)) (out ++ (l.drop i).map toY) := by
  induction d with
  | zero =>
    intro out rest i ho hr hi
    refine Ev.step (f := fun _ => some (out ++ (l.drop i).map toY)) (fun k => ?_) (Ev.now _)
    simp only [laws_toYarnS.l0]
    rw [if_neg (by omega), List.drop_eq_nil_of_le (by omega), List.length_eq_zero_iff.1 hr]; simp
  | succ d ih =>
    intro out rest i ho hr hi
    have hil : i < l.length := by omega
    obtain ⟨y, rest, rfl⟩ : ∃ y r, rest = y :: r := by cases rest with | nil => simp at hr | cons y r => exact ⟨y, r, rfl⟩
    refine Ev.step (fun k => ?_) (ev_id (ih (out ++ [toY l[i]]) rest (i + 1) (by simp; omega) (by simpa using hr) (by omega)) ?_)
    · simp only [laws_toYarnS.l0, laws_toYarn.f, Option.bind_some]
      rw [if_pos (by omega), if_pos (by omega), if_pos (by simp; omega), rdLY hil, wr (n := (i : Int) + 1) (by omega) (by omega)]
      have : (out ++ y :: rest).set (i : Int).toNat (⟨l[i].f0, l[i].f1, l[i].f2⟩ : IY) = out ++ [toY l[i]] ++ rest := by
        rw [Int.toNat_natCast, List.set_append_right _ _ (by omega), ho]; simp [toY]
      rw [this]; rfl
    · rw [List.drop_eq_getElem_cons hil]; simp only [List.map_cons, List.append_assoc, List.cons_append, List.nil_append]
theorem toYarnS_ev (l : List LY) (hl : (l.length : Int) ≤ 140737488351232) (hl2 : l.length ≤ 46912496118442) : Ev (fun k => laws_toYarnS.f k l) (l.map toY) := by
  unfold laws_toYarnS.f
  have h0 : (0 : Int) ≤ (l.length : Int) := by omega
  have h1 : ((l.length : Int) : Int).toNat ≤ 46912496118442 := by omega
  simp only [if_pos h0, if_pos h1]
  have := toYarnS_loop l hl l.length [] (List.replicate l.length z88) 0 rfl (by simp) (by omega)
  simpa using this
theorem eqYarnS_loop (l : List IY) (hl : (l.length : Int) ≤ 140737488351232) (d : Nat) : ∀ (i : Nat), i + d = l.length → Ev (fun k => laws_eqYarnS.l0 k l l (i : Int)) true := by
  induction d with
  | zero =>
    intro i hi
    refine Ev.step (f := fun _ => some true) (fun k => ?_) (Ev.now _)
    simp only [laws_eqYarnS.l0]; rw [if_neg (by omega)]
  | succ d ih =>
    intro i hi
    refine Ev.step (fun k => ?_) (ih (i + 1) (by omega))
    simp only [laws_eqYarnS.l0, laws_eqYarn.f, if_true, Option.bind_some]
    rw [if_pos (by omega), if_pos (by omega), if_pos (by omega), wr (n := (i : Int) + 1) (by omega) (by omega)]; rfl
theorem eqYarnS_self (l : List IY) (hl : (l.length : Int) ≤ 140737488351232) : Ev (fun k => laws_eqYarnS.f k l l) true := by
  unfold laws_eqYarnS.f
  simp only [if_true]
  exact eqYarnS_loop l hl l.length 0 (by omega)
/-- What a valid yarn is. -/
def vY (x : IY) : Bool := decide ((1 ≤ wrap64 x.f0 ∧ wrap64 x.f0 ≤ 5000) ∧ (-2000 ≤ wrap64 x.f1 ∧ wrap64 x.f1 ≤ 2000) ∧ (1 ≤ wrap64 x.f2 ∧ wrap64 x.f2 ≤ 2000))
theorem vY_spec (x : IY) : spec_l03Yarn.f x.f0 x.f1 x.f2 = some (vY x) := by
  unfold spec_l03Yarn.f vY
  simp only [l00In_f, Option.bind_some, if_dec]
  by_cases h1 : 1 ≤ wrap64 x.f0 ∧ wrap64 x.f0 ≤ 5000 <;> by_cases h2 : -2000 ≤ wrap64 x.f1 ∧ wrap64 x.f1 ≤ 2000 <;> simp [h1, h2]
theorem vY_impl (x : IY) : impl_ValidYarn.f x.f0 x.f1 x.f2 = some (vY x) := by
  unfold impl_ValidYarn.f vY
  simp only [within_f, Option.bind_some, if_dec]
  by_cases h1 : 1 ≤ wrap64 x.f0 ∧ wrap64 x.f0 ≤ 5000 <;> by_cases h2 : -2000 ≤ wrap64 x.f1 ∧ wrap64 x.f1 ≤ 2000 <;> simp [h1, h2]
theorem vYarn_eq : vYarn = vY := by
  funext x
  have h := vYarn_f x
  rw [vY_impl] at h
  exact (Option.some.inj h).symm
/-- The code of yarns. -/
def yCode (l : List IY) (b : Bool) : Int := if l.all vY = true then (if b = true then (if (l.length : Int) > 10 then 3 else 0) else 2) else 1
theorem impl_yCode (l : List IY) (b : Bool) (hl : (l.length : Int) ≤ 140737488351232) : impl_yarnsCode.f l b = some (yCode l b) := by
  unfold impl_yarnsCode.f yCode
  rw [if_pos (by omega), vYarn_eq]
theorem spec_yCode_loop (l : List IY) (b : Bool) (hl : (l.length : Int) ≤ 140737488351232) (d : Nat) : ∀ (i : Nat), i + d = l.length → (∀ x ∈ l.take i, vY x = true) →
    Ev (fun k => spec_l03Asked.l0 k l b (i : Int)) (yCode l b) := by
  induction d with
  | zero =>
    intro i hi ha
    refine Ev.step (f := fun _ => some (yCode l b)) (fun k => ?_) (Ev.now _)
    simp only [spec_l03Asked.l0]
    have : l.all vY = true := by
      rw [List.all_eq_true]; intro x hx; exact ha x (by rw [List.take_of_length_le (by omega)]; exact hx)
    rw [if_neg (by omega)]
    unfold yCode
    rw [if_pos this]
    cases b <;> simp <;> split <;> rfl
  | succ d ih =>
    intro i hi ha
    have hil : i < l.length := by omega
    cases hv : vY l[i] with
    | true =>
      refine Ev.step (fun k => ?_) (ih (i + 1) (by omega) ?_)
      · simp only [spec_l03Asked.l0, rdIY hil, vY_spec, Option.bind_some, hv, if_true]
        rw [if_pos (by omega), if_pos (by omega), wr (n := (i : Int) + 1) (by omega) (by omega)]; rfl
      · intro x hx
        rw [List.take_succ_eq_append_getElem hil] at hx
        rcases List.mem_append.1 hx with h | h
        · exact ha x h
        · simp at h; rw [h]; exact hv
    | false =>
      refine Ev.step (f := fun _ => some (yCode l b)) (fun k => ?_) (Ev.now _)
      simp only [spec_l03Asked.l0, rdIY hil, vY_spec, Option.bind_some, hv]
      rw [if_pos (by omega), if_pos (by omega)]
      have : ¬ l.all vY = true := by
        intro h
        have := List.all_eq_true.1 h l[i] (List.getElem_mem _)
        rw [hv] at this; cases this
      unfold yCode
      rw [if_neg this]; simp
theorem spec_yCode (l : List IY) (b : Bool) (hl : (l.length : Int) ≤ 140737488351232) : Ev (fun k => spec_l03Asked.f k l b) (yCode l b) := by
  unfold spec_l03Asked.f
  exact spec_yCode_loop l b hl l.length 0 (by omega) (by simp)
theorem yCode_zero {l : List IY} {b : Bool} (h : yCode l b = 0) : (∀ x ∈ l, vY x = true) ∧ b = true ∧ l.length ≤ 10 := by
  unfold yCode at h
  by_cases h1 : l.all vY = true
  · rw [if_pos h1] at h
    by_cases h2 : b = true
    · rw [if_pos h2] at h
      by_cases h3 : (l.length : Int) > 10
      · rw [if_pos h3] at h; omega
      · exact ⟨List.all_eq_true.1 h1, h2, by omega⟩
    · rw [if_neg h2] at h; omega
  · rw [if_neg h1] at h; omega
theorem wadd (a b : Int) : wrap64 (wrap64 a + b) = wrap64 (a + b) := by unfold wrap64; omega
theorem wsum (a b : Int) : wrap64 (a + wrap64 b) = wrap64 (a + b) := by unfold wrap64; omega
theorem markYarnS_loop (d : Nat) : ∀ (a : List IY) (m : Int) (i : Nat), i + d = a.length → (a.length : Int) ≤ 1073741824 → 0 ≤ m → m + 3 * d ≤ 4611686018427387904 →
    ∃ r : List IY, Ev (fun k => laws_markYarnS.l0 k a m (i : Int)) (m + 3 * d, r) := by
  induction d with
  | zero =>
    intro a m i hi hn h0 h1
    refine ⟨a, Ev.step (f := fun _ => some (m, a)) (fun k => ?_) (ev_id (Ev.now _) (by simp))⟩
    simp only [laws_markYarnS.l0]
    rw [if_neg (by omega)]
  | succ d ih =>
    intro a m i hi hn h0 h1
    have w1 : wrap64 (m + 1) = m + 1 := wr (by omega) (by omega)
    have w2 : wrap64 (m + 1 + 1) = m + 2 := by rw [wr (by omega) (by omega)]; omega
    have w4 : wrap64 (m + 2 + 1) = m + 3 := by rw [wr (by omega) (by omega)]; omega
    have w3 : wrap64 ((i : Int) + 1) = ((i + 1 : Nat) : Int) := by rw [wr (by omega) (by omega)]; omega
    have step : ∀ b1 b2 b3 : List IY, b1 = a.set i (⟨IntKind.i16.wrap m, (rd_T88 a i).f1, (rd_T88 a i).f2⟩ : IY) → b2 = b1.set i (⟨(rd_T88 b1 i).f0, IntKind.i16.wrap (m + 1), (rd_T88 b1 i).f2⟩ : IY) → b3 = b2.set i (⟨(rd_T88 b2 i).f0, (rd_T88 b2 i).f1, IntKind.i16.wrap (m + 2)⟩ : IY) →
        b3.length = a.length ∧ ∀ k, laws_markYarnS.l0 (k + 1) a m (i : Int) = laws_markYarnS.l0 k b3 (m + 3) ((i + 1 : Nat) : Int) := by
      intro b1 b2 b3 e1 e2 e3
      refine ⟨by rw [e3, e2, e1]; simp, fun k => ?_⟩
      simp only [laws_markYarnS.l0, Option.bind_some, w1, w2, w3, w4, Int.toNat_natCast]
      rw [if_pos (by omega), if_pos (by omega), ← e1, ← e2, ← e3]
    obtain ⟨hb, eb⟩ := step _ _ _ rfl rfl rfl
    generalize List.set _ i _ = b at hb eb
    obtain ⟨r, h⟩ := ih b (m + 3) (i + 1) (by omega) (by omega) (by omega) (by omega)
    exact ⟨r, Ev.step eb (ev_id h (by rw [Prod.mk.injEq]; exact ⟨by omega, rfl⟩))⟩
theorem markYarnS_ev (a : List IY) (hn : (a.length : Int) ≤ 1073741824) : ∃ r : List IY, Ev (fun k => laws_markYarnS.f k a 1) (1 + 3 * (a.length : Int), r) := by
  obtain ⟨r, h⟩ := markYarnS_loop a.length a 1 0 (by omega) hn (by omega) (by omega)
  exact ⟨r, h⟩
/-- Is it the length of a piece? -/
def isN (x : Int) : Bool := decide (1 ≤ x ∧ x ≤ 5000)
/-- The code of yarns and pieces. -/
def needC (l : List IY) (m : List Int) : Int := if yCode l (m.all isN) = 0 then (if (m.length : Int) > 6 then 3 else 0) else yCode l (m.all isN)
theorem needs_loop (l : List IY) (m : List Int) (hl : (l.length : Int) ≤ 140737488351232) (hm : (m.length : Int) ≤ 140737488351232) (d : Nat) : ∀ (i : Nat) (b : Bool), i + d = m.length → b = (m.take i).all isN →
    Ev (fun k => spec_l03Needs.l0 k l m b (i : Int)) (needC l m) := by
  induction d with
  | zero =>
    intro i b hi hb
    rw [List.take_of_length_le (by omega)] at hb
    refine Ev.step (fun k => by simp only [spec_l03Needs.l0]; rw [if_neg (by omega)]) (Ev.bind (spec_yCode l b hl) ?_)
    unfold needC
    rw [← hb]
    by_cases h : yCode l b = 0
    · simp only [h, if_true]
      by_cases h6 : (m.length : Int) > 6
      · simp only [if_pos h6]; exact Ev.now _
      · simp only [if_neg h6]; exact Ev.now _
    · simp only [if_neg h]; exact Ev.now _
  | succ d ih =>
    intro i b hi hb
    have hil : i < m.length := by omega
    have ht : (m.take (i + 1)).all isN = ((m.take i).all isN && isN m[i]) := by rw [List.take_succ_eq_append_getElem hil, List.all_append]; simp
    cases b with
    | true =>
      refine Ev.step (fun k => ?_) (ih (i + 1) (isN m[i]) (by omega) (by rw [ht, ← hb]; simp))
      simp only [spec_l03Needs.l0, if_true, rd_lt hil, l00In_f, Option.bind_some]
      rw [if_pos (by omega), if_pos (by omega), wr (n := (i : Int) + 1) (by omega) (by omega)]; rfl
    | false =>
      refine Ev.step (fun k => ?_) (ih (i + 1) false (by omega) (by rw [ht, ← hb]; simp))
      simp only [spec_l03Needs.l0, Bool.false_eq_true, if_false]
      rw [if_pos (by omega), wr (n := (i : Int) + 1) (by omega) (by omega)]; rfl
theorem needs_ev (l : List IY) (m : List Int) (hl : (l.length : Int) ≤ 140737488351232) (hm : (m.length : Int) ≤ 140737488351232) : Ev (fun k => spec_l03Needs.f k l m) (needC l m) := by
  unfold spec_l03Needs.f
  exact needs_loop l m hl hm m.length 0 true (by omega) (by simp)
theorem cutsCode_f (l : List IY) (m : List Int) (hl : (l.length : Int) ≤ 140737488351232) (hm : (m.length : Int) ≤ 140737488351232) : impl_cutsCode.f l m = some (needC l m) := by
  unfold impl_cutsCode.f needC
  have e : (fun x_ : Int => impl_cutsCode_1.f x_) = fun x => some (isN x) := by funext x; unfold impl_cutsCode_1.f isN; rw [within_f]; rfl
  have ea : impl_areAll_int64.f m (fun x_ => impl_cutsCode_1.f x_) = some (m.all isN) := by show allG m _ = _; rw [e, allG_some isN m (by omega)]
  simp only [ea, Option.bind_some, impl_yCode l _ hl]
  by_cases h : yCode l (m.all isN) = 0
  · simp only [h, if_true]
    by_cases h6 : (m.length : Int) > 6
    · simp only [if_pos h6]
    · simp only [if_neg h6]
  · simp only [if_neg h]
def longL (l : List IY) : List Int := l.map fun x => wrap64 x.f0
theorem longs_loop (l : List IY) (hl : (l.length : Int) ≤ 1048576) (d : Nat) : ∀ (i : Nat) (out : List Int), i + d = l.length → out.length ≤ i → Ev (fun k => impl_longs.l0 k out l (l.length : Int) (i : Int)) (out ++ longL (l.drop i)) := by
  induction d with
  | zero =>
    intro i out hi ho
    refine Ev.step (f := fun _ => some out) (fun k => ?_) (ev_id (Ev.now _) ?_)
    · simp only [impl_longs.l0]; rw [if_neg (by omega)]
    · rw [List.drop_eq_nil_of_le (by omega)]; simp [longL]
  | succ d ih =>
    intro i out hi ho
    have hil : i < l.length := by omega
    refine Ev.step (fun k => ?_) (ev_id (ih (i + 1) (out ++ [wrap64 l[i].f0]) (by omega) (by simp; omega)) ?_)
    · simp only [impl_longs.l0, rdIY hil]
      rw [if_pos (by omega), if_pos (by omega), if_pos (by omega), if_pos (by omega), wr (n := (i : Int) + 1) (by omega) (by omega)]; rfl
    · rw [List.drop_eq_getElem_cons hil]; simp only [longL, List.map_cons, List.append_assoc, List.cons_append, List.nil_append]
theorem longs_ev (l : List IY) (hl : (l.length : Int) ≤ 1048576) : Ev (fun k => impl_longs.f k l) (longL l) := by
  unfold impl_longs.f
  have := longs_loop l hl l.length 0 [] (by omega) (by simp)
  simpa using this
theorem rd_setN (l : List Int) (x : Int) (i j : Nat) (h : i < l.length) : rd (l.set i x) (j : Int) = if j = i then x else rd l (j : Int) := by
  unfold rd
  rw [Int.toNat_natCast, List.getD_eq_getElem?_getD, List.getElem?_set, List.getD_eq_getElem?_getD]
  by_cases e : i = j
  · subst e; simp [h]
  · rw [if_neg e, if_neg (fun z => e z.symm)]
theorem has_loop (l : List Int) (x : Int) (hl : (l.length : Int) ≤ 140737488351232) (d : Nat) : ∀ (i : Nat), i + d = l.length → Ev (fun k => spec_l00Has.l0 k l x (i : Int)) (decide (x ∈ l.drop i)) := by
  induction d with
  | zero =>
    intro i hi
    refine Ev.step (f := fun _ => some false) (fun k => ?_) (ev_id (Ev.now _) ?_)
    · simp only [spec_l00Has.l0]; rw [if_neg (by omega)]
    · rw [List.drop_eq_nil_of_le (by omega)]; simp
  | succ d ih =>
    intro i hi
    have hil : i < l.length := by omega
    rw [List.drop_eq_getElem_cons hil]
    by_cases h : l[i] = x
    · refine Ev.step (f := fun _ => some true) (fun k => ?_) (ev_id (Ev.now _) (by simp [h]))
      simp only [spec_l00Has.l0, rd_lt hil]
      rw [if_pos (by omega), if_pos (by omega), if_pos h]
    · refine Ev.step (fun k => ?_) (ev_id (ih (i + 1) (by omega)) (by rw [decide_eq_decide, List.mem_cons]; exact ⟨Or.inr, fun z => z.resolve_left (fun e => h e.symm)⟩))
      simp only [spec_l00Has.l0, rd_lt hil]
      rw [if_pos (by omega), if_pos (by omega), if_neg h, wr (n := (i : Int) + 1) (by omega) (by omega)]; rfl
theorem has_ev (l : List Int) (x : Int) (hl : (l.length : Int) ≤ 140737488351232) : Ev (fun k => spec_l00Has.f k l x) (decide (x ∈ l)) := by
  unfold spec_l00Has.f
  have := has_loop l x hl l.length 0 (by omega)
  simpa using this
/-- Where both searches stand. -/
structure OI (l : List IY) (D N S O L : List Int) (op : Int) : Prop where
  hS : S.length = 10
  hL : L.length = l.length
  hO : O.length = D.length
  hN : O.take N.length = N
  hz : ∀ (j : Nat) (h : j < l.length), rd S (j : Int) = rd L (j : Int) ∧ 0 ≤ rd L (j : Int) ∧ rd L (j : Int) ≤ l[j].f0 ∧ (rd L (j : Int) = l[j].f0 ↔ (j : Int) ∉ N)
  hop : 0 ≤ op ∧ op ≤ N.length
def OS (D B : List Int) (m mi : Int) (fd : Bool) : Prop := (fd = true → mi = m ∧ 0 ≤ m ∧ m ≤ 6 ∧ B.length = D.length) ∧ (fd = false → mi = -1 ∧ B = [])
theorem OI.next {l : List IY} {D N S O L : List Int} {op : Int} (h : OI l D N S O L op) (hl : l.length ≤ 10) (hv : ∀ x ∈ l, 1 ≤ x.f0 ∧ x.f0 ≤ 5000) (x : Nat) (hx : x < l.length) (hn : N.length < D.length) (nd : Int) (hd : 1 ≤ nd) (hle : nd ≤ rd L (x : Int)) (op2 : Int) (hop2 : (x : Int) ∈ N ∧ op2 = op ∨ (x : Int) ∉ N ∧ op2 = op + 1) :
    OI l D (N ++ [(x : Int)]) (S.set x (rd S (x : Int) - nd)) (O.set N.length (x : Int)) (L.set x (rd L (x : Int) - nd)) op2 := by
  have hxL : x < L.length := by rw [h.hL]; exact hx
  have hxS : x < S.length := by rw [h.hS]; omega
  obtain ⟨z1, z2, z3, z4⟩ := h.hz x hx
  refine ⟨by simp [h.hS], by simp [h.hL], by simp [h.hO], ?_, ?_, ?_⟩
  · rw [List.length_append, List.length_singleton, List.take_succ_eq_append_getElem (by simp [h.hO]; exact hn), List.take_set_of_le (Nat.le_refl _), h.hN]
    simp
  · intro j hj
    obtain ⟨y1, y2, y3, y4⟩ := h.hz j hj
    rw [rd_setN _ _ _ _ hxS, rd_setN _ _ _ _ hxL]
    by_cases e : j = x
    · subst e
      simp only [if_true]
      refine ⟨by rw [z1], by omega, by omega, ⟨fun z => by omega, fun z => absurd (List.mem_append_right N (List.mem_singleton.2 rfl)) z⟩⟩
    · simp only [if_neg e]
      refine ⟨y1, y2, y3, y4.trans ⟨fun z q => ?_, fun z q => z (List.mem_append_left _ q)⟩⟩
      rcases List.mem_append.1 q with q | q
      · exact z q
      · have := List.mem_singleton.1 q; omega
  · have := h.hop
    rw [List.length_append, List.length_singleton]
    rcases hop2 with ⟨_, e⟩ | ⟨_, e⟩ <;> omega
theorem cut_l0 (l : List IY) (D : List Int) (k : Nat) (i op bd x : Int) (O L B : List Int) (m : Int) (h1 : x < bd) (h2 : 0 ≤ i ∧ i < (D.length : Int) ∧ i < (O.length : Int) ∧ 0 ≤ x ∧ x < (L.length : Int) ∧ x < (l.length : Int)) (h3 : ¬ rd L x < rd D i) :
    impl_FewestOpened_1.l0 l D (k + 1) i op bd x O L B m = (impl_FewestOpened_1.f l D k (wrap64 (i + 1)) (if rd L x = wrap64 (rd_T88 l x).f0 then wrap64 (op + 1) else op) (O.set i.toNat x) (L.set x.toNat (wrap64 (rd L x - rd D i))) B m).bind fun r => if x < (r.2.1.length : Int) then impl_FewestOpened_1.l0 l D k i op bd (wrap64 (x + 1)) r.1 (r.2.1.set x.toNat (wrap64 (rd r.2.1 x + rd D i))) r.2.2.1 r.2.2.2 else none := by
  rw [impl_FewestOpened_1.l0, if_pos h1, if_pos h2, if_neg h3]
theorem cut_l0s (l : List IY) (D : List Int) (k : Nat) (i op bd x : Int) (O L B : List Int) (m : Int) (h1 : x < bd) (h2 : 0 ≤ i ∧ i < (D.length : Int) ∧ i < (O.length : Int) ∧ 0 ≤ x ∧ x < (L.length : Int) ∧ x < (l.length : Int)) (h3 : rd L x < rd D i) :
    impl_FewestOpened_1.l0 l D (k + 1) i op bd x O L B m = impl_FewestOpened_1.l0 l D k i op bd (wrap64 (x + 1)) O L B m := by
  rw [impl_FewestOpened_1.l0, if_pos h1, if_pos h2, if_pos h3]
theorem open_l0 (D : List Int) (n : Int) (k : Nat) (N S : List Int) (op x : Int) (B : List Int) (m : Int) (fd : Bool) (h1 : x < n) (h2 : 0 ≤ x ∧ x < 10 ∧ N.length ≤ 1048576) (h3 : ¬ rd S x < rd D (N.length : Int)) :
    spec_l03Open_from.l0 D n (k + 1) N S op x B m fd = (spec_l00Has.f k N x).bind fun has => (spec_l03Open_from.f D n k (N ++ [x]) (S.set x.toNat (wrap64 (rd S x - rd D (N.length : Int)))) (if has = true then op else wrap64 (op + 1)) B m fd).bind fun r => spec_l03Open_from.l0 D n k N S op (wrap64 (x + 1)) r.1 r.2.1 r.2.2 := by
  rw [spec_l03Open_from.l0, if_pos h1, if_pos h2, if_neg h3]
theorem open_l0s (D : List Int) (n : Int) (k : Nat) (N S : List Int) (op x : Int) (B : List Int) (m : Int) (fd : Bool) (h1 : x < n) (h2 : 0 ≤ x ∧ x < 10 ∧ N.length ≤ 1048576) (h3 : rd S x < rd D (N.length : Int)) :
    spec_l03Open_from.l0 D n (k + 1) N S op x B m fd = spec_l03Open_from.l0 D n k N S op (wrap64 (x + 1)) B m fd := by
  rw [spec_l03Open_from.l0, if_pos h1, if_pos h2, if_pos h3]
theorem clone_some {O : List Int} (h : O.length ≤ 1048576) : slices_Clone_int64_int64.f O = some O := by
  simp only [slices_Clone_int64_int64.f]; rw [if_pos (by omega)]
set_option maxHeartbeats 4000000 in
theorem open_go (l : List IY) (D : List Int) (hD : D.length ≤ 6) (hDv : ∀ x ∈ D, 1 ≤ x ∧ x ≤ 5000) (hl : l.length ≤ 10) (hv : ∀ x ∈ l, 1 ≤ x.f0 ∧ x.f0 ≤ 5000) : ∀ (d : Nat) (N S O L : List Int) (op : Int) (B : List Int) (m mi : Int) (fd : Bool), N.length + d = D.length → OI l D N S O L op → OS D B m mi fd →
    ∃ B' m' mi' fd' O', Ev (fun k => spec_l03Open_from.f D (l.length : Int) k N S op B m fd) (B', m', fd') ∧ Ev (fun k => impl_FewestOpened_1.f l D k (N.length : Int) op O L B mi) (O', L, B', mi') ∧ O'.length = D.length ∧ O'.take N.length = N ∧ OS D B' m' mi' fd' := by
  have guard : ∀ {fd : Bool} {m mi op : Int} {B : List Int}, OS D B m mi fd → ¬ (fd = true ∧ op ≥ m) → ¬ (mi ≥ 0 ∧ op ≥ mi) := by
    intro fd m mi op B hS hg
    rintro ⟨a, b⟩
    cases fd with
    | true => obtain ⟨rfl, _, _⟩ := hS.1 rfl; exact hg ⟨rfl, b⟩
    | false => have := (hS.2 rfl).1; omega
  intro d
  induction d with
  | zero =>
    intro N S O L op B m mi fd hd hI hS
    by_cases hg : fd = true ∧ op ≥ m
    · obtain ⟨rfl, hg2⟩ := hg
      obtain ⟨rfl, q1, q2⟩ := hS.1 rfl
      exact ⟨B, mi, mi, true, O, Ev.step (f := fun _ => some (B, mi, true)) (fun k => by rw [spec_l03Open_from.f, if_pos ⟨rfl, hg2⟩]) (Ev.now _), Ev.step (f := fun _ => some (O, L, B, mi)) (fun k => by rw [impl_FewestOpened_1.f, if_pos ⟨q1, hg2⟩]) (Ev.now _), hI.hO, hI.hN, hS⟩
    · have hN : O = N := by rw [← hI.hN, show N.length = O.length by rw [hI.hO]; omega, List.take_length]
      have h0 := hI.hop
      refine ⟨N, op, op, true, O, Ev.step (f := fun _ => some (N, op, true)) (fun k => ?_) (Ev.now _), Ev.step (f := fun _ => some (O, L, N, op)) (fun k => ?_) (Ev.now _), hI.hO, hI.hN, ⟨fun _ => ⟨rfl, h0.1, by omega, by omega⟩, fun z => by cases z⟩⟩
      · rw [spec_l03Open_from.f, if_neg hg, if_pos (by omega), if_pos (by omega)]
      · have hd2 : (N.length : Int) = (D.length : Int) := by omega
        rw [impl_FewestOpened_1.f, if_neg (guard hS hg), if_pos hd2, clone_some (by have := hI.hO; omega), Option.bind_some, hN]
  | succ d ihd =>
    have loop : ∀ (N S L : List Int) (op : Int), N.length + (d + 1) = D.length → ∀ (e x : Nat) (O B : List Int) (m mi : Int) (fd : Bool), x + e = l.length → OI l D N S O L op → OS D B m mi fd →
        ∃ B' m' mi' fd' O', Ev (fun k => spec_l03Open_from.l0 D (l.length : Int) k N S op (x : Int) B m fd) (B', m', fd') ∧ Ev (fun k => impl_FewestOpened_1.l0 l D k (N.length : Int) op (L.length : Int) (x : Int) O L B mi) (O', L, B', mi') ∧ O'.length = D.length ∧ O'.take N.length = N ∧ OS D B' m' mi' fd' := by
      intro N S L op hd e
      induction e with
      | zero =>
        intro x O B m mi fd hx hI hS
        refine ⟨B, m, mi, fd, O, Ev.step (f := fun _ => some (B, m, fd)) (fun k => ?_) (Ev.now _), Ev.step (f := fun _ => some (O, L, B, mi)) (fun k => ?_) (Ev.now _), hI.hO, hI.hN, hS⟩
        · rw [spec_l03Open_from.l0, if_neg (by omega)]
        · rw [impl_FewestOpened_1.l0, if_neg (by have := hI.hL; omega)]
      | succ e ihe =>
        intro x O B m mi fd hx hI hS
        have hxl : x < l.length := by omega
        have hn : N.length < D.length := by omega
        have hxS : x < S.length := by rw [hI.hS]; omega
        have hxL : x < L.length := by rw [hI.hL]; exact hxl
        obtain ⟨z1, z2, z3, z4⟩ := hI.hz x hxl
        have hw := hv l[x] (List.getElem_mem hxl)
        have hnd := hDv D[N.length] (List.getElem_mem hn)
        have rD : rd D (N.length : Int) = D[N.length] := rd_lt hn
        have wx : wrap64 ((x : Int) + 1) = ((x + 1 : Nat) : Int) := by rw [wr (by omega) (by omega)]; omega
        have g2 : 0 ≤ (N.length : Int) ∧ (N.length : Int) < (D.length : Int) ∧ (N.length : Int) < (O.length : Int) ∧ 0 ≤ (x : Int) ∧ (x : Int) < (L.length : Int) ∧ (x : Int) < (l.length : Int) := ⟨Int.natCast_nonneg _, Int.ofNat_lt.2 hn, Int.ofNat_lt.2 (hI.hO ▸ hn), Int.natCast_nonneg _, Int.ofNat_lt.2 hxL, Int.ofNat_lt.2 hxl⟩
        have s2 : 0 ≤ (x : Int) ∧ (x : Int) < 10 ∧ N.length ≤ 1048576 := ⟨Int.natCast_nonneg _, Int.ofNat_lt.2 (Nat.lt_of_lt_of_le hxl hl), Nat.le_trans (Nat.le_of_lt hn) (Nat.le_trans hD (by decide))⟩
        by_cases hlt : rd L (x : Int) < D[N.length]
        · obtain ⟨B1, m1, mi1, fd1, O1, q1, q2, q3⟩ := ihe (x + 1) O B m mi fd (by omega) hI hS
          refine ⟨B1, m1, mi1, fd1, O1, Ev.step (fun k => ?_) q1, Ev.step (fun k => ?_) q2, q3⟩
          · show spec_l03Open_from.l0 D (l.length : Int) (k + 1) N S op (x : Int) B m fd = _
            rw [open_l0s D _ k N S op (x : Int) B m fd (Int.ofNat_lt.2 hxl) s2 (by rw [z1, rD]; exact hlt), wx]
          · show impl_FewestOpened_1.l0 l D (k + 1) (N.length : Int) op (L.length : Int) (x : Int) O L B mi = _
            rw [cut_l0s l D k _ op _ (x : Int) O L B mi (Int.ofNat_lt.2 hxL) g2 (by rw [rD]; exact hlt), wx]
        · obtain ⟨op2, hop2, hb⟩ : ∃ op2, ((x : Int) ∈ N ∧ op2 = op ∨ (x : Int) ∉ N ∧ op2 = op + 1) ∧ op2 = (if (x : Int) ∈ N then op else op + 1) := by
            by_cases hm : (x : Int) ∈ N
            · exact ⟨op, Or.inl ⟨hm, rfl⟩, by rw [if_pos hm]⟩
            · exact ⟨op + 1, Or.inr ⟨hm, rfl⟩, by rw [if_neg hm]⟩
          have hI1 := hI.next hl hv x hxl hn D[N.length] hnd.1 (by omega) op2 hop2
          obtain ⟨B1, m1, mi1, fd1, O1, s1, i1, o1, o2, o3⟩ := ihd _ _ _ _ _ B m mi fd (by simp; omega) hI1 hS
          have wop : wrap64 (op + 1) = op + 1 := by have := hI.hop; rw [wr (by omega) (by omega)]
          have eS : (if decide ((x : Int) ∈ N) = true then op else wrap64 (op + 1)) = op2 := by rw [wop, hb, if_dec]
          have eI : (if rd L (x : Int) = wrap64 (rd_T88 l (x : Int)).f0 then wrap64 (op + 1) else op) = op2 := by
            rw [rdIY hxl, wr (n := l[x].f0) (by omega) (by omega), wop, hb]
            by_cases hm : (x : Int) ∈ N
            · rw [if_pos hm, if_neg (fun z => z4.1 z hm)]
            · rw [if_neg hm, if_pos (z4.2 hm)]
          have wS : wrap64 (rd S (x : Int) - rd D (N.length : Int)) = rd S (x : Int) - D[N.length] := by rw [rD, wr (by omega) (by omega)]
          have wL : wrap64 (rd L (x : Int) - rd D (N.length : Int)) = rd L (x : Int) - D[N.length] := by rw [rD, wr (by omega) (by omega)]
          have wn : wrap64 ((N.length : Int) + 1) = ((N ++ [(x : Int)]).length : Int) := by rw [wr (by omega) (by omega)]; simp
          have hO1 : O1.take N.length = N := by
            have := congrArg (List.take N.length) o2
            rw [List.take_take, List.length_append, Nat.min_eq_left (by omega)] at this
            simpa using this
          have hrest : (L.set x (rd L (x : Int) - D[N.length])).set x (wrap64 (rd (L.set x (rd L (x : Int) - D[N.length])) (x : Int) + rd D (N.length : Int))) = L := by
            rw [rd_setN _ _ _ _ hxL, if_pos rfl, rD, wr (by omega) (by omega), List.set_set]
            have : rd L (x : Int) - D[N.length] + D[N.length] = L[x] := by rw [rd_lt hxL]; omega
            rw [this, List.set_getElem_self]
          have hI2 : OI l D N S O1 L op := ⟨hI.hS, hI.hL, o1, hO1, hI.hz, hI.hop⟩
          obtain ⟨B2, m2, mi2, fd2, O2, s3, i3, p3⟩ := ihe (x + 1) O1 B1 m1 mi1 fd1 (by omega) hI2 o3
          have hlx : (x : Int) < ((L.set x (rd L (x : Int) - D[N.length])).length : Int) := by rw [List.length_set]; exact Int.ofNat_lt.2 hxL
          refine ⟨B2, m2, mi2, fd2, O2, Ev.step (fun k => open_l0 D _ k N S op (x : Int) B m fd (Int.ofNat_lt.2 hxl) s2 (by rw [z1, rD]; exact hlt)) (Ev.bind (has_ev N (x : Int) (by omega)) ?_), Ev.step (fun k => cut_l0 l D k _ op _ (x : Int) O L B mi (Int.ofNat_lt.2 hxL) g2 (by rw [rD]; exact hlt)) ?_, p3⟩
          · simp only [eS, wS, wx, Int.toNat_natCast]
            exact Ev.bind s1 s3
          · simp only [eI, wL, wx, wn, Int.toNat_natCast]
            refine Ev.bind i1 ?_
            simp only [if_pos hlx]
            rw [hrest]; exact i3
    intro N S O L op B m mi fd hd hI hS
    by_cases hg : fd = true ∧ op ≥ m
    · obtain ⟨rfl, hg2⟩ := hg
      obtain ⟨rfl, q1, q2⟩ := hS.1 rfl
      exact ⟨B, mi, mi, true, O, Ev.step (f := fun _ => some (B, mi, true)) (fun k => by rw [spec_l03Open_from.f, if_pos ⟨rfl, hg2⟩]) (Ev.now _), Ev.step (f := fun _ => some (O, L, B, mi)) (fun k => by rw [impl_FewestOpened_1.f, if_pos ⟨q1, hg2⟩]) (Ev.now _), hI.hO, hI.hN, hS⟩
    · obtain ⟨B', m', mi', fd', O', s, i, r⟩ := loop N S L op hd l.length 0 O B m mi fd (by omega) hI hS
      refine ⟨B', m', mi', fd', O', Ev.step (fun k => ?_) s, Ev.step (fun k => ?_) i, r⟩
      · rw [spec_l03Open_from.f, if_neg hg, if_neg (by omega), if_pos (by omega)]; rfl
      · rw [impl_FewestOpened_1.f, if_neg (guard hS hg), if_neg (by have := hd; omega)]; rfl
theorem needC_zero {l : List IY} {m : List Int} (h : needC l m = 0) : yCode l (m.all isN) = 0 ∧ m.length ≤ 6 := by
  unfold needC at h
  by_cases hy : yCode l (m.all isN) = 0
  · rw [if_pos hy] at h
    by_cases h6 : (m.length : Int) > 6
    · rw [if_pos h6] at h; omega
    · exact ⟨hy, by omega⟩
  · rw [if_neg hy] at h; exact absurd h hy
theorem FewestOpened_same (l : List IY) (D : List Int) (hl : (l.length : Int) ≤ 1048576) (hD : (D.length : Int) ≤ 1048576) (hw : ∀ x ∈ l, -32768 ≤ x.f0 ∧ x.f0 ≤ 32767) :
    ∃ r : List Int × Int × Int, Ev (fun k => spec_FewestOpened.f k l D) r ∧ Ev (fun k => impl_FewestOpened.f k l D) r ∧ r.1.length ≤ 6 := by
  unfold spec_FewestOpened.f impl_FewestOpened.f
  simp only [cutsCode_f l D (by omega) (by omega), Option.bind_some]
  have ne := needs_ev l D (by omega) (by omega)
  by_cases h : needC l D = 0
  · obtain ⟨hy, h6⟩ := needC_zero h
    obtain ⟨hv, hf, hlen⟩ := yCode_zero hy
    have hDv : ∀ x ∈ D, 1 ≤ x ∧ x ≤ 5000 := fun x hx => of_decide_eq_true (List.all_eq_true.1 hf x hx)
    have ho : ∀ x ∈ l, 1 ≤ x.f0 ∧ x.f0 ≤ 5000 := by
      intro x hx
      have h1 := hw x hx
      have h2 := hv x hx
      unfold vY at h2
      have z := (of_decide_eq_true h2).1
      rw [wr (n := x.f0) (by omega) (by omega)] at z
      exact z
    have hl10 : l.length ≤ 10 := by omega
    have eL : ∀ (j : Nat) (h : j < l.length), rd (longL l) (j : Int) = l[j].f0 := by
      intro j hj
      have := ho l[j] (List.getElem_mem hj)
      rw [rd_lt (by unfold longL; simpa using hj)]
      simp only [longL, List.getElem_map]
      exact wr (by omega) (by omega)
    have eF : ∀ (j : Nat) (h : j < l.length), spec_FewestOpened.F l l.length j = l[j].f0 := by
      intro j hj
      have := ho l[j] (List.getElem_mem hj)
      unfold spec_FewestOpened.F
      rw [if_pos hj, rdIY hj]
      exact wr (by omega) (by omega)
    generalize hSS : [spec_FewestOpened.F l l.length 0, spec_FewestOpened.F l l.length 1, spec_FewestOpened.F l l.length 2, spec_FewestOpened.F l l.length 3, spec_FewestOpened.F l l.length 4, spec_FewestOpened.F l l.length 5, spec_FewestOpened.F l l.length 6, spec_FewestOpened.F l l.length 7, spec_FewestOpened.F l l.length 8, spec_FewestOpened.F l l.length 9] = SS
    have eS : ∀ (j : Nat) (h : j < l.length), rd SS (j : Int) = l[j].f0 := by
      intro j hj
      rw [← eF j hj, ← hSS]
      unfold rd
      rw [Int.toNat_natCast]
      match j, (show j < 10 by omega) with
      | 0, _ | 1, _ | 2, _ | 3, _ | 4, _ | 5, _ | 6, _ | 7, _ | 8, _ | 9, _ => rfl
    have hI : OI l D [] SS (List.replicate D.length 0) (longL l) 0 := by
      refine ⟨by rw [← hSS]; rfl, by simp [longL], by simp, rfl, fun j hj => ?_, by simp⟩
      have := ho l[j] (List.getElem_mem hj)
      rw [eS j hj, eL j hj]
      exact ⟨rfl, by omega, by omega, by simp⟩
    obtain ⟨B, m, mi, fd, O, s, i, _, _, hs⟩ := open_go l D h6 hDv hl10 ho D.length [] _ _ _ 0 [] 0 (-1) false (by simp) hI ⟨(fun z => by cases z), fun _ => ⟨rfl, rfl⟩⟩
    rw [h] at ne
    simp only [if_pos h, if_pos (show D.length ≤ 1048576 by omega)]
    cases fd with
    | true =>
      obtain ⟨rfl, q0, q1, q2⟩ := hs.1 rfl
      refine ⟨(B, mi, 0), Ev.bind ne ?_, Ev.bind (longs_ev l hl) (Ev.bind i ?_), by simp only; omega⟩
      · simp only [if_true, if_pos hl10]
        exact Ev.bind s (by simp only [if_true]; exact Ev.now _)
      · simp only [if_neg (show ¬ mi < 0 by omega)]; exact Ev.now _
    | false =>
      obtain ⟨rfl, rfl⟩ := hs.2 rfl
      refine ⟨([], 0, 6), Ev.bind ne ?_, Ev.bind (longs_ev l hl) (Ev.bind i ?_), by simp⟩
      · simp only [if_true, if_pos hl10]
        exact Ev.bind s (by simp only [Bool.false_eq_true, if_false]; exact Ev.now _)
      · simp only [if_pos (show (-1 : Int) < 0 by omega)]; exact Ev.now _
  · refine ⟨([], 0, needC l D), Ev.bind ne ?_, ?_, by simp⟩
    · simp only [if_neg h]; exact Ev.now _
    · simp only [if_neg h]; exact Ev.now _
theorem wfp16 {a : Int} (h : (Lit.int .i16 a).wf = true) : -32768 ≤ a ∧ a ≤ 32767 := by
  simp only [Lit.wf, IntKind.min, IntKind.max, IntKind.signed, IntKind.bits, Bool.and_eq_true, decide_eq_true_eq, if_true] at h
  omega
theorem FnExactFewestOpened : laws_FnExactFewestOpened.Pure := by
  intro l m ⟨hl, hs⟩ ⟨hm, _⟩
  refine Ev.rounds ?_
  unfold laws_FnExactFewestOpened.f
  by_cases hM : (m.length : Int) > 1048576
  · simp only [if_pos hM]; exact Ev.now _
  · simp only [if_neg hM, szYarn_f l 1048576 (by omega) (by omega), Option.bind_some]
    by_cases h : (l.length : Int) ≤ 1048576
    · have hn : ¬ (1048576 - (l.length : Int) < 0) := by omega
      simp only [if_pos h, if_neg hn]
      have ts := toYarnS_ev l (by omega) (by omega)
      have ti := toInt64S_ev m (by omega)
      have hw' : ∀ x ∈ l.map toY, -32768 ≤ x.f0 ∧ x.f0 ≤ 32767 := by
        intro x hx
        obtain ⟨y, hy, rfl⟩ := List.mem_map.1 hx
        exact wfp16 (hs y hy).1
      obtain ⟨⟨w, c, e⟩, f1, f2, fl⟩ := FewestOpened_same (l.map toY) m (by simpa using h) (by omega) hw'
      have hw : (w.length : Int) ≤ 4611686018427387904 := by simp only at fl; omega
      obtain ⟨s, m1, m2⟩ := markInt64S_ev w hw
      obtain ⟨s2, n2⟩ := markYarnS_ev (l.map toY) (by simp; omega)
      obtain ⟨s3, n3⟩ := markInt64S_from m (1 + 3 * ((l.map toY).length : Int)) (by omega) (by omega) (by simp; omega)
      have hneg1 : ¬ (1 + 3 * ((l.map toY).length : Int) + (m.length : Int) < 0) := by omega
      have hneg2 : ¬ (1 + (w.length : Int) < 0) := by omega
      refine Ev.bind ts (Ev.bind ti (Ev.bind f1 (Ev.bind ts (Ev.bind ti (Ev.bind f2 (Ev.bind (eqInt64S_self w hw) ?_))))))
      simp only [if_true, bne_self_eq_false]
      refine Ev.step (fun k => by simp only [laws_FnExactFewestOpened.j0, Bool.false_eq_true, if_false]; rfl) (Ev.bind ts (Ev.bind (eqYarnS_self (l.map toY) (by simp; omega)) ?_))
      simp only [if_true]
      refine Ev.bind ti (Ev.bind (eqInt64S_self m (by omega)) ?_)
      simp only [if_true]
      refine Ev.bind n2 (Ev.bind n3 ?_)
      simp only [if_neg hneg1]
      refine Ev.bind (eqInt64S_self w hw) ?_
      simp only [if_true, bne_self_eq_false]
      refine Ev.step (fun k => by simp only [laws_FnExactFewestOpened.j1, Bool.false_eq_true, if_false]; rfl) (Ev.bind m1 (Ev.bind m2 ?_))
      simp only [if_neg hneg2, if_true]
      refine Ev.bind ts (Ev.bind ti (Ev.bind f2 (Ev.bind (eqInt64S_self w hw) ?_)))
      simp only [if_true, bne_self_eq_false]
      refine Ev.step (fun k => by simp only [laws_FnExactFewestOpened.j2, Bool.false_eq_true, if_false]; rfl) (Ev.bind m2 ?_)
      simp only [if_neg hneg2, if_true]; exact Ev.now _
    · simp only [if_neg h, show ((-1 : Int) < 0) from by omega, if_true]; exact Ev.now _
end Go.Proofs.Ytjhjabibkkhmjaa.Pure
