/- Pieces are cut, each from the first yarn that is long enough. -/
import Derived.Test.YtejpdeaeflmmpaaXFnExactCutsFromx6
namespace Go.Proofs.Ytejpdeaeflmmpaa.Pure
open Go.RowKit Go.Proofs.Ytejpdeaeflmmpaa.XFnExactCutsFrom Go.Proofs.YtejpdeaeflmmpaaW.PrintWords Go.Proofs.YtejpdeaeflmmpaaW.PrintLast
set_option linter.unusedVariables false
set_option linter.unusedSimpArgs false
theorem wr {n : Int} (h0 : -9223372036854775808 ≤ n) (h1 : n ≤ 9223372036854775807) : wrap64 n = n := by
  unfold wrap64; omega
theorem wf64 {a : Int} (h : (Lit.int .i64 a).wf = true) : -9223372036854775808 ≤ a ∧ a ≤ 9223372036854775807 := by
  simp only [Lit.wf, IntKind.min, IntKind.max, IntKind.signed, IntKind.bits, Bool.and_eq_true, decide_eq_true_eq, if_true] at h
  omega
theorem ev_id {α : Type} {g : Nat → Option α} {r s : α} (h : Ev g r) (e : r = s) : Ev g s := e ▸ h
theorem ev_const {α : Type} {o : Option α} {r : α} (h : o = some r) : Ev (fun _ => o) r := ⟨0, fun _ _ => h⟩
theorem ev_fun {α : Type} {g : Nat → Option α} {r s : α} (h : Ev g r) (k : Ev g s) : r = s := by
  obtain ⟨a, h⟩ := h
  obtain ⟨b, k⟩ := k
  have x := h (max a b) (by omega)
  have y := k (max a b) (by omega)
  rw [x] at y; exact Option.some.inj y
/-- Both come to one answer. -/
def Same {α : Type} (g f : Nat → Option α) : Prop := ∃ r, Ev g r ∧ Ev f r
theorem Same.step {α : Type} {g f g' f' : Nat → Option α} (hg : ∀ k, g (k + 1) = g' k) (hf : ∀ k, f (k + 1) = f' k) (h : Same g' f') : Same g f := by
  obtain ⟨r, a, b⟩ := h
  exact ⟨r, Ev.step hg a, Ev.step hf b⟩
theorem Same.left {α : Type} {g f g' : Nat → Option α} (hg : ∀ k, g (k + 1) = g' k) (h : Same g' f) : Same g f := by
  obtain ⟨r, a, b⟩ := h
  exact ⟨r, Ev.step hg a, b⟩
theorem Same.right {α : Type} {g f f' : Nat → Option α} (hf : ∀ k, f (k + 1) = f' k) (h : Same g f') : Same g f := by
  obtain ⟨r, a, b⟩ := h
  exact ⟨r, a, Ev.step hf b⟩
theorem Same.now {α : Type} (r : α) : Same (fun _ => some r) (fun _ => some r) := ⟨r, Ev.now r, Ev.now r⟩
theorem if_dec {α : Type} {p : Prop} [Decidable p] (a b : α) : (if decide p = true then a else b) = if p then a else b := by
  by_cases h : p <;> simp [h]
theorem w00 : wrap64 0 = 0 := wr (by omega) (by omega)
theorem l00In_f (a b c : Int) : spec_l00In.f a b c = some (decide (b ≤ a ∧ a ≤ c)) := by
  unfold spec_l00In.f
  by_cases h : b ≤ a <;> simp [h]
theorem within_f (a b c : Int) : impl_within.f a b c = some (decide (b ≤ a ∧ a ≤ c)) := by
  unfold impl_within.f
  by_cases h : b ≤ a <;> simp [h]
theorem rd_lt {l : List Int} {i : Nat} (h : i < l.length) : rd l (i : Int) = l[i] := by
  unfold rd; simp [List.getD, h]
theorem eqInt64S_loop (a b : List Int) (hab : a.length = b.length) (hn : (a.length : Int) ≤ 4611686018427387904) (d : Nat) : ∀ (i : Nat), i ≤ a.length → a.length - i = d →
    Ev (fun k => laws_eqInt64S.l0 k a b (i : Int)) (decide (a.drop i = b.drop i)) := by
  induction d with
  | zero =>
    intro i hi hd
    refine Ev.step (f := fun _ => some (decide (a.drop i = b.drop i))) (fun k => ?_) (Ev.now _)
    simp only [laws_eqInt64S.l0]
    rw [if_neg (by omega), List.drop_eq_nil_of_le (by omega), List.drop_eq_nil_of_le (by omega)]; simp
  | succ d ih =>
    intro i hi hd
    have ha : i < a.length := by omega
    have hb : i < b.length := by omega
    by_cases e : a[i] = b[i]
    · refine Ev.step (fun k => ?_) (ev_id (ih (i + 1) (by omega) (by omega)) ?_)
      · simp only [laws_eqInt64S.l0]
        rw [if_pos (by omega), if_pos (by omega), if_pos (by omega), rd_lt ha, rd_lt hb, if_pos e, wr (by omega) (by omega)]; rfl
      · simp only [List.drop_eq_getElem_cons ha, List.drop_eq_getElem_cons hb, List.cons.injEq, e, true_and]
    · refine Ev.step (f := fun _ => some false) (fun k => ?_) (ev_id (Ev.now _) ?_)
      · simp only [laws_eqInt64S.l0]
        rw [if_pos (by omega), if_pos (by omega), if_pos (by omega), rd_lt ha, rd_lt hb, if_neg e]
      · simp only [List.drop_eq_getElem_cons ha, List.drop_eq_getElem_cons hb, List.cons.injEq, e, false_and, decide_false]
theorem eqInt64S_ev (a b : List Int) (hn : (a.length : Int) ≤ 4611686018427387904) : Ev (fun k => laws_eqInt64S.f k a b) (decide (a = b)) := by
  unfold laws_eqInt64S.f
  by_cases h : a.length = b.length
  · simp only [h, if_true]
    simpa using eqInt64S_loop a b h hn a.length 0 (by omega) (by omega)
  · have h' : ¬ (a.length : Int) = b.length := by omega
    simp only [if_neg h']
    have : a ≠ b := fun e => h (by rw [e])
    simpa [this] using Ev.now false
theorem eqInt64S_self (a : List Int) (hn : (a.length : Int) ≤ 4611686018427387904) : Ev (fun k => laws_eqInt64S.f k a a) true := by
  simpa using eqInt64S_ev a a hn
theorem markInt64S_loop (d : Nat) : ∀ (a p : List Int) (m : Int) (i : Nat), i + d = a.length → (a.length : Int) ≤ 4611686018427387904 → m = 1 + i → (∀ j (h : j < a.length), j < i → a[j] = 1 + (j : Int)) →
    ∃ r : List Int, Ev (fun k => laws_markInt64S.l0 k a m (i : Int)) (1 + (a.length : Int), r) ∧ r.length = a.length ∧ ∀ j (h : j < r.length), r[j] = 1 + (j : Int) := by
  induction d with
  | zero =>
    intro a p m i hi hn hm ha
    refine ⟨a, Ev.step (f := fun _ => some (1 + (a.length : Int), a)) (fun k => ?_) (Ev.now _), rfl, fun j h => ha j h (by omega)⟩
    simp only [laws_markInt64S.l0]
    rw [if_neg (by omega), show m = 1 + (a.length : Int) by omega]
  | succ d ih =>
    intro a p m i hi hn hm ha
    obtain ⟨r, h1, h2, h3⟩ := ih (a.set i m) p (m + 1) (i + 1) (by simp; omega) (by simpa using hn) (by omega) (by
      intro j h hj
      simp only [List.getElem_set]
      split
      · omega
      · exact ha j (by simpa using h) (by omega))
    simp only [List.length_set] at h1 h2
    refine ⟨r, Ev.step (fun k => ?_) h1, h2, h3⟩
    simp only [laws_markInt64S.l0]
    rw [if_pos (by omega), if_pos (by omega), wr (n := m + 1) (by omega) (by omega), wr (n := (i : Int) + 1) (by omega) (by omega)]; rfl
theorem heldInt64S_loop (a : List Int) (hn : (a.length : Int) ≤ 4611686018427387904) (ha : ∀ j (h : j < a.length), a[j] = 1 + (j : Int)) (d : Nat) : ∀ (i : Nat), i + d = a.length →
    Ev (fun k => laws_heldInt64S.l0 k a (1 + (i : Int)) (i : Int)) (1 + (a.length : Int)) := by
  induction d with
  | zero =>
    intro i hi
    refine Ev.step (f := fun _ => some (1 + (a.length : Int))) (fun k => ?_) (Ev.now _)
    simp only [laws_heldInt64S.l0]
    rw [if_neg (by omega), show i = a.length by omega]
  | succ d ih =>
    intro i hi
    refine Ev.step (fun k => ?_) (ih (i + 1) (by omega))
    simp only [laws_heldInt64S.l0]
    rw [if_pos (by omega), if_pos (by omega), rd_lt (by omega), if_pos (ha i (by omega)), wr (n := 1 + (i : Int) + 1) (by omega) (by omega), wr (n := (i : Int) + 1) (by omega) (by omega), show 1 + (i : Int) + 1 = 1 + ((i + 1 : Nat) : Int) by omega]; rfl
/-- What has been marked is held. -/
theorem markInt64S_ev (a : List Int) (hn : (a.length : Int) ≤ 4611686018427387904) :
    ∃ r : List Int, Ev (fun k => laws_markInt64S.f k a 1) (1 + (a.length : Int), r) ∧ Ev (fun k => laws_heldInt64S.f k r 1) (1 + (a.length : Int)) := by
  obtain ⟨r, h1, h2, h3⟩ := markInt64S_loop a.length a a 1 0 (by omega) hn (by omega) (fun j h hj => by omega)
  refine ⟨r, h1, ?_⟩
  have := heldInt64S_loop r (by omega) h3 r.length 0 (by omega)
  rw [h2] at this
  exact this
theorem toInt64S_loop (l : List Int) (hl : (l.length : Int) ≤ 140737488351232) (d : Nat) : ∀ (out rest : List Int) (i : Nat), out.length = i → rest.length = d → i + d = l.length →
    Ev (fun k => laws_toInt64S.l0 k l (out ++ rest) (i : Int)) (out ++ l.drop i) := by
  induction d with
  | zero =>
    intro out rest i ho hr hi
    refine Ev.step (f := fun _ => some (out ++ l.drop i)) (fun k => ?_) (Ev.now _)
    simp only [laws_toInt64S.l0]
    rw [if_neg (by omega), List.drop_eq_nil_of_le (by omega), List.length_eq_zero_iff.1 hr]
  | succ d ih =>
    intro out rest i ho hr hi
    have hil : i < l.length := by omega
    obtain ⟨y, rest, rfl⟩ : ∃ y r, rest = y :: r := by cases rest with | nil => simp at hr | cons y r => exact ⟨y, r, rfl⟩
    refine Ev.step (fun k => ?_) (ev_id (ih (out ++ [l[i]]) rest (i + 1) (by simp; omega) (by simpa using hr) (by omega)) ?_)
    · simp only [laws_toInt64S.l0]
      rw [if_pos (by omega), if_pos (by omega), if_pos (by simp; omega), rd_lt hil, wr (n := (i : Int) + 1) (by omega) (by omega)]
      have : (out ++ y :: rest).set (i : Int).toNat l[i] = out ++ [l[i]] ++ rest := by
        rw [Int.toNat_natCast, List.set_append_right _ _ (by omega), ho]; simp
      rw [this]; rfl
    · rw [List.drop_eq_getElem_cons hil]; simp only [List.append_assoc, List.cons_append, List.nil_append]
theorem toInt64S_ev (l : List Int) (hl : (l.length : Int) ≤ 35184372088832) : Ev (fun k => laws_toInt64S.f k l) l := by
  unfold laws_toInt64S.f
  have h0 : (0 : Int) ≤ (l.length : Int) := by omega
  have h1 : ((l.length : Int) : Int).toNat ≤ 35184372088832 := by omega
  simp only [if_pos h0, if_pos h1]
  have := toInt64S_loop l (by omega) l.length [] (List.replicate l.length 0) 0 rfl (by simp) (by omega)
  simpa using this
theorem markInt64S_from_loop (d : Nat) : ∀ (a : List Int) (m : Int) (i : Nat), i + d = a.length → (a.length : Int) ≤ 1073741824 → 0 ≤ m → m + d ≤ 4611686018427387904 →
    ∃ r : List Int, Ev (fun k => laws_markInt64S.l0 k a m (i : Int)) (m + d, r) := by
  induction d with
  | zero =>
    intro a m i hi hn h0 h1
    refine ⟨a, Ev.step (f := fun _ => some (m, a)) (fun k => ?_) (ev_id (Ev.now _) (by simp))⟩
    simp only [laws_markInt64S.l0]
    rw [if_neg (by omega)]
  | succ d ih =>
    intro a m i hi hn h0 h1
    obtain ⟨r, h⟩ := ih (a.set i m) (m + 1) (i + 1) (by simp; omega) (by simpa using hn) (by omega) (by omega)
    refine ⟨r, Ev.step (fun k => ?_) (ev_id h (by rw [Prod.mk.injEq]; exact ⟨by omega, rfl⟩))⟩
    simp only [laws_markInt64S.l0]
    rw [if_pos (by omega), if_pos (by omega), wr (n := m + 1) (by omega) (by omega), wr (n := (i : Int) + 1) (by omega) (by omega)]; rfl
theorem markInt64S_from (a : List Int) (m : Int) (hn : (a.length : Int) ≤ 1073741824) (h0 : 0 ≤ m) (h1 : m ≤ 1099511627776) : ∃ r : List Int, Ev (fun k => laws_markInt64S.f k a m) (m + a.length, r) := by
  obtain ⟨r, h⟩ := markInt64S_from_loop a.length a m 0 (by omega) hn h0 (by omega)
  exact ⟨r, h⟩
theorem allO_some {α : Type} (p : α → Bool) : ∀ l : List α, allO (fun x => some (p x)) l = some (l.all p)
  | [] => rfl
  | x :: l => by
    simp only [allO, Option.bind_some, List.all_cons, allO_some p l]
    cases p x <;> simp
theorem allG_some {α : Type} (p : α → Bool) (l : List α) (h : (l.length : Int) ≤ 4611686018427387904) : allG l (fun x => some (p x)) = some (l.all p) := by
  unfold allG; rw [if_pos h, allO_some]
/-- The first place, counted from i on, at which p holds, or -1. -/
def idxP {α : Type} (p : α → Bool) : List α → Int → Int
  | [], _ => -1
  | x :: l, i => if p x = true then i else idxP p l (i + 1)
theorem idxO_some {α : Type} (p : α → Bool) : ∀ (l : List α) (i : Int), idxO (fun x => some (p x)) l i = some (idxP p l i)
  | [], i => rfl
  | x :: l, i => by
    simp only [idxO, idxP, Option.bind_some, idxO_some p l (i + 1)]
    cases p x <;> simp
theorem idxG_some {α : Type} (p : α → Bool) (l : List α) (h : (l.length : Int) ≤ 4611686018427387904) : idxG l (fun x => some (p x)) = some (idxP p l 0) := by
  unfold idxG; rw [if_pos h, idxO_some]
theorem idxP_range {α : Type} (p : α → Bool) : ∀ (l : List α) (i : Int), 0 ≤ i → idxP p l i = -1 ∨ (i ≤ idxP p l i ∧ idxP p l i < i + l.length)
  | [], i, h => .inl rfl
  | x :: l, i, h => by
    simp only [idxP]
    split
    · simp; omega
    · have := idxP_range p l (i + 1) (by omega)
      simp only [List.length_cons]; omega
abbrev LY := S85
abbrev IY := S83
def toY (x : LY) : IY := ⟨x.f0, x.f1, x.f2⟩
theorem rdIY {l : List IY} {i : Nat} (h : i < l.length) : rd_T83 l (i : Int) = l[i] := by
  unfold rd_T83; simp [List.getD, h]
theorem rdLY {l : List LY} {i : Nat} (h : i < l.length) : rd_T85 l (i : Int) = l[i] := by
  unfold rd_T85; simp [List.getD, h]
theorem szYarn_f (l : List LY) (n : Int) (h0 : (l.length : Int) ≤ 140737488351232) (hn : 0 ≤ n ∧ n ≤ 1048576) : laws_szYarnS.f l n = some (if (l.length : Int) ≤ n then n - l.length else -1) := by
  unfold laws_szYarnS.f
  rw [wr (by omega) (by omega)]
  by_cases h : (l.length : Int) ≤ n
  · rw [if_neg (by omega), if_pos h]
  · rw [if_pos (by omega), if_neg h]
theorem toYarnS_loop (l : List LY) (hl : (l.length : Int) ≤ 140737488351232) (d : Nat) : ∀ (out rest : List IY) (i : Nat), out.length = i → rest.length = d → i + d = l.length →
    Ev (fun k => laws_toYarnS.l0 k l (out ++ rest) (i : Int)) (out ++ (l.drop i).map toY) := by
  induction d with
  | zero =>
    intro out rest i ho hr hi
    refine Ev.step (f := fun _ => some (out ++ (l.drop i).map toY)) (fun k => ?_) (Ev.now _)
    simp only [laws_toYarnS.l0]
    rw [if_neg (by omega), List.drop_eq_nil_of_le (by omega), List.length_eq_zero_iff.1 hr]; simp
  | succ d ih =>
    intro out rest i ho hr hi
    have hil : i < l.length := by omega
    obtain ⟨y, rest, rfl⟩ : ∃ y r, rest = y :: r := by cases rest with | nil => simp at hr | cons y r => exact ⟨y, r, rfl⟩
    refine Ev.step (fun k => ?_) (ev_id (ih (out ++ [toY l[i]]) rest (i + 1) (by simp; omega) (by simpa using hr) (by omega)) ?_)
    · simp only [laws_toYarnS.l0, laws_toYarn.f, Option.bind_some]
      rw [if_pos (by omega), if_pos (by omega), if_pos (by simp; omega), rdLY hil, wr (n := (i : Int) + 1) (by omega) (by omega)]
      have : (out ++ y :: rest).set (i : Int).toNat (⟨l[i].f0, l[i].f1, l[i].f2⟩ : IY) = out ++ [toY l[i]] ++ rest := by
        rw [Int.toNat_natCast, List.set_append_right _ _ (by omega), ho]; simp [toY]
      rw [this]; rfl
    · rw [List.drop_eq_getElem_cons hil]; simp only [List.map_cons, List.append_assoc, List.cons_append, List.nil_append]
theorem toYarnS_ev (l : List LY) (hl : (l.length : Int) ≤ 140737488351232) (hl2 : l.length ≤ 46912496118442) : Ev (fun k => laws_toYarnS.f k l) (l.map toY) := by
  unfold laws_toYarnS.f
  have h0 : (0 : Int) ≤ (l.length : Int) := by omega
  have h1 : ((l.length : Int) : Int).toNat ≤ 46912496118442 := by omega
  simp only [if_pos h0, if_pos h1]
  have := toYarnS_loop l hl l.length [] (List.replicate l.length z83) 0 rfl (by simp) (by omega)
  simpa using this
theorem eqYarnS_loop (l : List IY) (hl : (l.length : Int) ≤ 140737488351232) (d : Nat) : ∀ (i : Nat), i + d = l.length → Ev (fun k => laws_eqYarnS.l0 k l l (i : Int)) true := by
  induction d with
  | zero =>
    intro i hi
    refine Ev.step (f := fun _ => some true) (fun k => ?_) (Ev.now _)
    simp only [laws_eqYarnS.l0]; rw [if_neg (by omega)]
  | succ d ih =>
    intro i hi
    refine Ev.step (fun k => ?_) (ih (i + 1) (by omega))
    simp only [laws_eqYarnS.l0, laws_eqYarn.f, if_true, Option.bind_some]
    rw [if_pos (by omega), if_pos (by omega), if_pos (by omega), wr (n := (i : Int) + 1) (by omega) (by omega)]; rfl
theorem eqYarnS_self (l : List IY) (hl : (l.length : Int) ≤ 140737488351232) : Ev (fun k => laws_eqYarnS.f k l l) true := by
  unfold laws_eqYarnS.f
  simp only [if_true]
  exact eqYarnS_loop l hl l.length 0 (by omega)
/-- What a valid yarn is. -/
def vY (x : IY) : Bool := decide ((1 ≤ wrap64 x.f0 ∧ wrap64 x.f0 ≤ 5000) ∧ (-2000 ≤ wrap64 x.f1 ∧ wrap64 x.f1 ≤ 2000) ∧ (1 ≤ wrap64 x.f2 ∧ wrap64 x.f2 ≤ 2000))
theorem vY_spec (x : IY) : spec_l03Yarn.f x.f0 x.f1 x.f2 = some (vY x) := by
  unfold spec_l03Yarn.f vY
  simp only [l00In_f, Option.bind_some, if_dec]
  by_cases h1 : 1 ≤ wrap64 x.f0 ∧ wrap64 x.f0 ≤ 5000 <;> by_cases h2 : -2000 ≤ wrap64 x.f1 ∧ wrap64 x.f1 ≤ 2000 <;> simp [h1, h2]
theorem vY_impl (x : IY) : impl_ValidYarn.f x.f0 x.f1 x.f2 = some (vY x) := by
  unfold impl_ValidYarn.f vY
  simp only [within_f, Option.bind_some, if_dec]
  by_cases h1 : 1 ≤ wrap64 x.f0 ∧ wrap64 x.f0 ≤ 5000 <;> by_cases h2 : -2000 ≤ wrap64 x.f1 ∧ wrap64 x.f1 ≤ 2000 <;> simp [h1, h2]
theorem vYarn_eq : vYarn = vY := by
  funext x
  have h := vYarn_f x
  rw [vY_impl] at h
  exact (Option.some.inj h).symm
/-- The code of yarns. -/
def yCode (l : List IY) (b : Bool) : Int := if l.all vY = true then (if b = true then (if (l.length : Int) > 10 then 3 else 0) else 2) else 1
theorem impl_yCode (l : List IY) (b : Bool) (hl : (l.length : Int) ≤ 140737488351232) : impl_yarnsCode.f l b = some (yCode l b) := by
  unfold impl_yarnsCode.f yCode
  rw [if_pos (by omega), vYarn_eq]
theorem spec_yCode_loop (l : List IY) (b : Bool) (hl : (l.length : Int) ≤ 140737488351232) (d : Nat) : ∀ (i : Nat), i + d = l.length → (∀ x ∈ l.take i, vY x = true) →
    Ev (fun k => spec_l03Asked.l0 k l b (i : Int)) (yCode l b) := by
  induction d with
  | zero =>
    intro i hi ha
    refine Ev.step (f := fun _ => some (yCode l b)) (fun k => ?_) (Ev.now _)
    simp only [spec_l03Asked.l0]
    have : l.all vY = true := by
      rw [List.all_eq_true]; intro x hx; exact ha x (by rw [List.take_of_length_le (by omega)]; exact hx)
    rw [if_neg (by omega)]
    unfold yCode
    rw [if_pos this]
    cases b <;> simp <;> split <;> rfl
  | succ d ih =>
    intro i hi ha
    have hil : i < l.length := by omega
    cases hv : vY l[i] with
    | true =>
      refine Ev.step (fun k => ?_) (ih (i + 1) (by omega) ?_)
      · simp only [spec_l03Asked.l0, rdIY hil, vY_spec, Option.bind_some, hv, if_true]
        rw [if_pos (by omega), if_pos (by omega), wr (n := (i : Int) + 1) (by omega) (by omega)]; rfl
      · intro x hx
        rw [List.take_succ_eq_append_getElem hil] at hx
        rcases List.mem_append.1 hx with h | h
        · exact ha x h
        · simp at h; rw [h]; exact hv
    | false =>
      refine Ev.step (f := fun _ => some (yCode l b)) (fun k => ?_) (Ev.now _)
      simp only [spec_l03Asked.l0, rdIY hil, vY_spec, Option.bind_some, hv]
      rw [if_pos (by omega), if_pos (by omega)]
      have : ¬ l.all vY = true := by
        intro h
        have := List.all_eq_true.1 h l[i] (List.getElem_mem _)
        rw [hv] at this; cases this
      unfold yCode
      rw [if_neg this]; simp
theorem spec_yCode (l : List IY) (b : Bool) (hl : (l.length : Int) ≤ 140737488351232) : Ev (fun k => spec_l03Asked.f k l b) (yCode l b) := by
  unfold spec_l03Asked.f
  exact spec_yCode_loop l b hl l.length 0 (by omega) (by simp)
theorem yCode_zero {l : List IY} {b : Bool} (h : yCode l b = 0) : (∀ x ∈ l, vY x = true) ∧ b = true ∧ l.length ≤ 10 := by
  unfold yCode at h
  by_cases h1 : l.all vY = true
  · rw [if_pos h1] at h
    by_cases h2 : b = true
    · rw [if_pos h2] at h
      by_cases h3 : (l.length : Int) > 10
      · rw [if_pos h3] at h; omega
      · exact ⟨List.all_eq_true.1 h1, h2, by omega⟩
    · rw [if_neg h2] at h; omega
  · rw [if_neg h1] at h; omega
theorem wadd (a b : Int) : wrap64 (wrap64 a + b) = wrap64 (a + b) := by unfold wrap64; omega
theorem wsum (a b : Int) : wrap64 (a + wrap64 b) = wrap64 (a + b) := by unfold wrap64; omega
theorem markYarnS_loop (d : Nat) : ∀ (a : List IY) (m : Int) (i : Nat), i + d = a.length → (a.length : Int) ≤ 1073741824 → 0 ≤ m → m + 3 * d ≤ 4611686018427387904 →
    ∃ r : List IY, Ev (fun k => laws_markYarnS.l0 k a m (i : Int)) (m + 3 * d, r) := by
  induction d with
  | zero =>
    intro a m i hi hn h0 h1
    refine ⟨a, Ev.step (f := fun _ => some (m, a)) (fun k => ?_) (ev_id (Ev.now _) (by simp))⟩
    simp only [laws_markYarnS.l0]
    rw [if_neg (by omega)]
  | succ d ih =>
    intro a m i hi hn h0 h1
    have w1 : wrap64 (m + 1) = m + 1 := wr (by omega) (by omega)
    have w2 : wrap64 (m + 1 + 1) = m + 2 := by rw [wr (by omega) (by omega)]; omega
    have w4 : wrap64 (m + 2 + 1) = m + 3 := by rw [wr (by omega) (by omega)]; omega
    have w3 : wrap64 ((i : Int) + 1) = ((i + 1 : Nat) : Int) := by rw [wr (by omega) (by omega)]; omega
    have step : ∀ b1 b2 b3 : List IY, b1 = a.set i (⟨IntKind.i16.wrap m, (rd_T83 a i).f1, (rd_T83 a i).f2⟩ : IY) → b2 = b1.set i (⟨(rd_T83 b1 i).f0, IntKind.i16.wrap (m + 1), (rd_T83 b1 i).f2⟩ : IY) → b3 = b2.set i (⟨(rd_T83 b2 i).f0, (rd_T83 b2 i).f1, IntKind.i16.wrap (m + 2)⟩ : IY) →
        b3.length = a.length ∧ ∀ k, laws_markYarnS.l0 (k + 1) a m (i : Int) = laws_markYarnS.l0 k b3 (m + 3) ((i + 1 : Nat) : Int) := by
      intro b1 b2 b3 e1 e2 e3
      refine ⟨by rw [e3, e2, e1]; simp, fun k => ?_⟩
      simp only [laws_markYarnS.l0, Option.bind_some, w1, w2, w3, w4, Int.toNat_natCast]
      rw [if_pos (by omega), if_pos (by omega), ← e1, ← e2, ← e3]
    obtain ⟨hb, eb⟩ := step _ _ _ rfl rfl rfl
    generalize List.set _ i _ = b at hb eb
    obtain ⟨r, h⟩ := ih b (m + 3) (i + 1) (by omega) (by omega) (by omega) (by omega)
    exact ⟨r, Ev.step eb (ev_id h (by rw [Prod.mk.injEq]; exact ⟨by omega, rfl⟩))⟩
theorem markYarnS_ev (a : List IY) (hn : (a.length : Int) ≤ 1073741824) : ∃ r : List IY, Ev (fun k => laws_markYarnS.f k a 1) (1 + 3 * (a.length : Int), r) := by
  obtain ⟨r, h⟩ := markYarnS_loop a.length a 1 0 (by omega) hn (by omega) (by omega)
  exact ⟨r, h⟩
/-- Is it the length of a piece? -/
def isN (x : Int) : Bool := decide (1 ≤ x ∧ x ≤ 5000)
/-- The code of yarns and pieces. -/
def needC (l : List IY) (m : List Int) : Int := if yCode l (m.all isN) = 0 then (if (m.length : Int) > 6 then 3 else 0) else yCode l (m.all isN)
theorem needs_loop (l : List IY) (m : List Int) (hl : (l.length : Int) ≤ 140737488351232) (hm : (m.length : Int) ≤ 140737488351232) (d : Nat) : ∀ (i : Nat) (b : Bool), i + d = m.length → b = (m.take i).all isN →
    Ev (fun k => spec_l03Needs.l0 k l m b (i : Int)) (needC l m) := by
  induction d with
  | zero =>
    intro i b hi hb
    rw [List.take_of_length_le (by omega)] at hb
    refine Ev.step (fun k => by simp only [spec_l03Needs.l0]; rw [if_neg (by omega)]) (Ev.bind (spec_yCode l b hl) ?_)
    unfold needC
    rw [← hb]
    by_cases h : yCode l b = 0
    · simp only [h, if_true]
      by_cases h6 : (m.length : Int) > 6
      · simp only [if_pos h6]; exact Ev.now _
      · simp only [if_neg h6]; exact Ev.now _
    · simp only [if_neg h]; exact Ev.now _
  | succ d ih =>
    intro i b hi hb
    have hil : i < m.length := by omega
    have ht : (m.take (i + 1)).all isN = ((m.take i).all isN && isN m[i]) := by rw [List.take_succ_eq_append_getElem hil, List.all_append]; simp
    cases b with
    | true =>
      refine Ev.step (fun k => ?_) (ih (i + 1) (isN m[i]) (by omega) (by rw [ht, ← hb]; simp))
      simp only [spec_l03Needs.l0, if_true, rd_lt hil, l00In_f, Option.bind_some]
      rw [if_pos (by omega), if_pos (by omega), wr (n := (i : Int) + 1) (by omega) (by omega)]; rfl
    | false =>
      refine Ev.step (fun k => ?_) (ih (i + 1) false (by omega) (by rw [ht, ← hb]; simp))
      simp only [spec_l03Needs.l0, Bool.false_eq_true, if_false]
      rw [if_pos (by omega), wr (n := (i : Int) + 1) (by omega) (by omega)]; rfl
theorem needs_ev (l : List IY) (m : List Int) (hl : (l.length : Int) ≤ 140737488351232) (hm : (m.length : Int) ≤ 140737488351232) : Ev (fun k => spec_l03Needs.f k l m) (needC l m) := by
  unfold spec_l03Needs.f
  exact needs_loop l m hl hm m.length 0 true (by omega) (by simp)
theorem cutsCode_f (l : List IY) (m : List Int) (hl : (l.length : Int) ≤ 140737488351232) (hm : (m.length : Int) ≤ 140737488351232) : impl_cutsCode.f l m = some (needC l m) := by
  unfold impl_cutsCode.f needC
  have e : (fun x_ : Int => impl_cutsCode_1.f x_) = fun x => some (isN x) := by funext x; unfold impl_cutsCode_1.f isN; rw [within_f]; rfl
  have ea : impl_areAll_int64.f m (fun x_ => impl_cutsCode_1.f x_) = some (m.all isN) := by show allG m _ = _; rw [e, allG_some isN m (by omega)]
  simp only [ea, Option.bind_some, impl_yCode l _ hl]
  by_cases h : yCode l (m.all isN) = 0
  · simp only [h, if_true]
    by_cases h6 : (m.length : Int) > 6
    · simp only [if_pos h6]
    · simp only [if_neg h6]
  · simp only [if_neg h]
def longL (l : List IY) : List Int := l.map fun x => wrap64 x.f0
theorem longs_loop (l : List IY) (hl : (l.length : Int) ≤ 1048576) (d : Nat) : ∀ (i : Nat) (out : List Int), i + d = l.length → out.length ≤ i → Ev (fun k => impl_longs.l0 k out l (l.length : Int) (i : Int)) (out ++ longL (l.drop i)) := by
  induction d with
  | zero =>
    intro i out hi ho
    refine Ev.step (f := fun _ => some out) (fun k => ?_) (ev_id (Ev.now _) ?_)
    · simp only [impl_longs.l0]; rw [if_neg (by omega)]
    · rw [List.drop_eq_nil_of_le (by omega)]; simp [longL]
  | succ d ih =>
    intro i out hi ho
    have hil : i < l.length := by omega
    refine Ev.step (fun k => ?_) (ev_id (ih (i + 1) (out ++ [wrap64 l[i].f0]) (by omega) (by simp; omega)) ?_)
    · simp only [impl_longs.l0, rdIY hil]
      rw [if_pos (by omega), if_pos (by omega), if_pos (by omega), if_pos (by omega), wr (n := (i : Int) + 1) (by omega) (by omega)]; rfl
    · rw [List.drop_eq_getElem_cons hil]; simp only [longL, List.map_cons, List.append_assoc, List.cons_append, List.nil_append]
theorem longs_ev (l : List IY) (hl : (l.length : Int) ≤ 1048576) : Ev (fun k => impl_longs.f k l) (longL l) := by
  unfold impl_longs.f
  have := longs_loop l hl l.length 0 [] (by omega) (by simp)
  simpa using this
def ge (n x : Int) : Bool := decide (x ≥ n)
theorem cut_find (m out rest : List Int) (i : Nat) (hi : i < m.length) (hm : m.length ≤ 6) (hr : (rest.length : Int) ≤ 1048576) (R : List Int × Int) (K : ∀ x12, Ev (fun k => spec_CutsFrom.j3 k m out rest (i : Int) (idxP (ge m[i]) rest 0) x12 false) R) (d : Nat) :
    ∀ j : Nat, j + d = rest.length → idxP (ge m[i]) rest 0 = idxP (ge m[i]) (rest.drop j) j → Ev (fun k => spec_CutsFrom.l2 k m out rest (i : Int) (-1) (j : Int)) R := by
  induction d with
  | zero =>
    intro j hj he
    rw [List.drop_eq_nil_of_le (by omega)] at he
    simp only [idxP] at he
    rw [he] at K
    exact Ev.step (fun k => by simp only [spec_CutsFrom.l2]; rw [if_neg (by omega)]) (K (j : Int))
  | succ d ih =>
    intro j hj he
    have hjl : j < rest.length := by omega
    have w : wrap64 ((j : Int) + 1) = ((j + 1 : Nat) : Int) := by rw [wr (by omega) (by omega)]; omega
    have hneg : decide ((-1 : Int) < 0) = true := by decide
    have st : ∀ k, spec_CutsFrom.l2 (k + 1) m out rest (i : Int) (-1) (j : Int) = spec_CutsFrom.j3 k m out rest (i : Int) (-1) (j : Int) true := by
      intro k; simp only [spec_CutsFrom.l2, hneg]; rw [if_pos (by omega)]
    rw [List.drop_eq_getElem_cons hjl] at he
    simp only [idxP] at he
    refine Ev.step st ?_
    by_cases h : rest[j] ≥ m[i]
    · have hg : ge m[i] rest[j] = true := decide_eq_true h
      rw [if_pos hg] at he
      rw [he] at K
      refine Ev.step (fun k => by simp only [spec_CutsFrom.j3, if_true, rd_lt hjl, rd_lt hi]; rw [if_pos (by omega), if_pos (by omega), if_pos (by omega), if_pos (by omega), if_pos h, w]) ?_
      have hd : decide ((j : Int) < 0) = false := decide_eq_false (by omega)
      by_cases h2 : ((j + 1 : Nat) : Int) < (rest.length : Int)
      · exact Ev.step (fun k => by simp only [spec_CutsFrom.l2, hd]; rw [if_pos h2]) (K _)
      · exact Ev.step (fun k => by simp only [spec_CutsFrom.l2]; rw [if_neg h2]) (K _)
    · have hg : ¬ ge m[i] rest[j] = true := by unfold ge; simpa using h
      rw [if_neg hg] at he
      refine Ev.step (fun k => by simp only [spec_CutsFrom.j3, if_true, rd_lt hjl, rd_lt hi]; rw [if_pos (by omega), if_pos (by omega), if_pos (by omega), if_pos (by omega), if_neg h, w]) (ih (j + 1) (by omega) ?_)
      rw [he]; congr 1
theorem cut_loop (m : List Int) (hm : m.length ≤ 6) (d : Nat) : ∀ (i : Nat) (out rest : List Int), i + d = m.length → out.length ≤ i → (rest.length : Int) ≤ 1048576 →
    ∃ r : List Int × Int, Ev (fun k => spec_CutsFrom.l1 k m out rest (i : Int)) r ∧ Ev (fun k => impl_CutsFrom.l0 k rest out m (m.length : Int) (i : Int)) r ∧ r.1.length ≤ 6 := by
  induction d with
  | zero =>
    intro i out rest hi ho hr
    refine ⟨(out, 0), Ev.step (f := fun _ => some (out, 0)) (fun k => ?_) (Ev.now _), Ev.step (f := fun _ => some (out, 0)) (fun k => ?_) (Ev.now _), by simp only; omega⟩
    · simp only [spec_CutsFrom.l1]; rw [if_neg (by omega)]
    · simp only [impl_CutsFrom.l0]; rw [if_neg (by omega)]
  | succ d ih =>
    intro i out rest hi ho hr
    have hil : i < m.length := by omega
    have w : wrap64 ((i : Int) + 1) = ((i + 1 : Nat) : Int) := by rw [wr (by omega) (by omega)]; omega
    have eq_ : (fun x_ : Int => impl_CutsFrom_1.f x_ m[i]) = fun x => some (ge m[i] x) := rfl
    have ei : slices_IndexFunc_int64_int64.f rest (fun x_ => impl_CutsFrom_1.f x_ m[i]) = some (idxP (ge m[i]) rest 0) := by show idxG rest _ = _; rw [eq_, idxG_some _ rest (by omega)]
    have rg := idxP_range (ge m[i]) rest 0 (by omega)
    have fnd := fun R K => cut_find m out rest i hil hm hr R K rest.length 0 (by omega) rfl
    generalize hq : idxP (ge m[i]) rest 0 = q at ei rg fnd
    by_cases hq0 : q ≥ 0
    · have hql : q < (rest.length : Int) := by omega
      have rq : rd rest q = rest[q.toNat]'(by omega) := by unfold rd; simp [List.getD, show q.toNat < rest.length by omega]
      obtain ⟨r, r1, r2, r3⟩ := ih (i + 1) (out ++ [q]) (rest.set q.toNat (wrap64 (rd rest q - m[i]))) (by omega) (by simp; omega) (by simpa using hr)
      refine ⟨r, Ev.step (fun k => ?_) (fnd r (fun x12 => Ev.step (fun k => ?_) r1)), Ev.step (fun k => ?_) r2, r3⟩
      · simp only [spec_CutsFrom.l1]; rw [if_pos (by omega)]; rfl
      · simp only [spec_CutsFrom.j3, Bool.false_eq_true, if_false, rd_lt hil]
        rw [if_pos hq0, if_pos hq0, if_pos hql, if_pos (by omega), if_pos (by omega), if_pos (by omega), w]
      · simp only [impl_CutsFrom.l0, rd_lt hil, ei, Option.bind_some]
        rw [if_pos (by omega), if_pos (by omega), if_pos (by omega), if_pos hq0, if_pos hq0, if_pos hql, if_pos (by omega), w]
    · obtain ⟨r, r1, r2, r3⟩ := ih (i + 1) (out ++ [q]) rest (by omega) (by simp; omega) hr
      refine ⟨r, Ev.step (fun k => ?_) (fnd r (fun x12 => Ev.step (fun k => ?_) r1)), Ev.step (fun k => ?_) r2, r3⟩
      · simp only [spec_CutsFrom.l1]; rw [if_pos (by omega)]; rfl
      · simp only [spec_CutsFrom.j3, Bool.false_eq_true, if_false]
        rw [if_neg hq0, if_pos (by omega), w]
      · simp only [impl_CutsFrom.l0, rd_lt hil, ei, Option.bind_some]
        rw [if_pos (by omega), if_pos (by omega), if_pos (by omega), if_neg hq0, if_pos (by omega), w]
theorem cut_longs (l : List IY) (m : List Int) (hl : (l.length : Int) ≤ 1048576) (d : Nat) (r : List Int × Int) (K : Ev (fun k => spec_CutsFrom.l1 k m [] (longL l) ((0 : Nat) : Int)) r) : ∀ (i : Nat) (out : List Int), i + d = l.length → out.length ≤ i → out ++ longL (l.drop i) = longL l → Ev (fun k => spec_CutsFrom.l0 k l m [] out (i : Int)) r := by
  induction d with
  | zero =>
    intro i out hi ho he
    rw [List.drop_eq_nil_of_le (by omega)] at he
    simp only [longL, List.map_nil, List.append_nil] at he
    refine Ev.step (fun k => ?_) K
    simp only [spec_CutsFrom.l0]; rw [if_neg (by omega), he]; rfl
  | succ d ih =>
    intro i out hi ho he
    have hil : i < l.length := by omega
    refine Ev.step (fun k => ?_) (ih (i + 1) (out ++ [wrap64 l[i].f0]) (by omega) (by simp; omega) ?_)
    · simp only [spec_CutsFrom.l0, rdIY hil]
      rw [if_pos (by omega), if_pos (by omega), if_pos (by omega), wr (n := (i : Int) + 1) (by omega) (by omega)]; rfl
    · rw [← he, List.drop_eq_getElem_cons hil]; simp only [longL, List.map_cons, List.append_assoc, List.cons_append, List.nil_append]
theorem cuts_same (l : List IY) (m : List Int) (hl : (l.length : Int) ≤ 1048576) (hm : (m.length : Int) ≤ 1048576) : ∃ r : List Int × Int, Ev (fun k => spec_CutsFrom.f k l m) r ∧ Ev (fun k => impl_CutsFrom.f k l m) r ∧ r.1.length ≤ 6 := by
  unfold spec_CutsFrom.f impl_CutsFrom.f
  simp only [cutsCode_f l m (by omega) (by omega), Option.bind_some]
  have ne := needs_ev l m (by omega) (by omega)
  by_cases h : needC l m = 0
  · have hm6 : m.length ≤ 6 := by
      unfold needC at h
      by_cases hy : yCode l (m.all isN) = 0
      · rw [if_pos hy] at h
        by_cases h6 : (m.length : Int) > 6
        · rw [if_pos h6] at h; omega
        · omega
      · rw [if_neg hy] at h; exact absurd h hy
    obtain ⟨r, r1, r2, r3⟩ := cut_loop m hm6 m.length 0 [] (longL l) (by omega) (by simp) (by unfold longL; simpa using hl)
    rw [h] at ne
    refine ⟨r, Ev.bind ne ?_, ?_, r3⟩
    · simp only [if_true]
      exact cut_longs l m hl l.length r r1 0 [] (by omega) (by simp) (by simp)
    · simp only [if_pos h]
      exact Ev.bind (longs_ev l hl) r2
  · exact ⟨([], needC l m), Ev.bind ne (by simp only [if_neg h]; exact Ev.now _), by simp only [if_neg h]; exact Ev.now _, by simp⟩
theorem FnExactCutsFrom : laws_FnExactCutsFrom.Pure := by
  intro l m ⟨hl, hs⟩ ⟨hm, _⟩
  refine Ev.rounds ?_
  unfold laws_FnExactCutsFrom.f
  by_cases hM : (m.length : Int) > 1048576
  · simp only [if_pos hM]; exact Ev.now _
  · simp only [if_neg hM, szYarn_f l 1048576 (by omega) (by omega), Option.bind_some]
    by_cases h : (l.length : Int) ≤ 1048576
    · have hn : ¬ (1048576 - (l.length : Int) < 0) := by omega
      simp only [if_pos h, if_neg hn]
      have ts := toYarnS_ev l (by omega) (by omega)
      have ti := toInt64S_ev m (by omega)
      obtain ⟨⟨w, c⟩, f1, f2, fl⟩ := cuts_same (l.map toY) m (by simpa using h) (by omega)
      have hw : (w.length : Int) ≤ 4611686018427387904 := by simp only at fl; omega
      obtain ⟨s, m1, m2⟩ := markInt64S_ev w hw
      obtain ⟨s2, n2⟩ := markYarnS_ev (l.map toY) (by simp; omega)
      obtain ⟨s3, n3⟩ := markInt64S_from m (1 + 3 * ((l.map toY).length : Int)) (by omega) (by omega) (by simp; omega)
      have hneg1 : ¬ (1 + 3 * ((l.map toY).length : Int) + (m.length : Int) < 0) := by omega
      have hneg2 : ¬ (1 + (w.length : Int) < 0) := by omega
      refine Ev.bind ts (Ev.bind ti (Ev.bind f1 (Ev.bind ts (Ev.bind ti (Ev.bind f2 (Ev.bind (eqInt64S_self w hw) ?_))))))
      simp only [if_true, bne_self_eq_false]
      refine Ev.step (fun k => by simp only [laws_FnExactCutsFrom.j0, Bool.false_eq_true, if_false]; rfl) (Ev.bind ts (Ev.bind (eqYarnS_self (l.map toY) (by simp; omega)) ?_))
      simp only [if_true]
      refine Ev.bind ti (Ev.bind (eqInt64S_self m (by omega)) ?_)
      simp only [if_true]
      refine Ev.bind n2 (Ev.bind n3 ?_)
      simp only [if_neg hneg1]
      refine Ev.bind (eqInt64S_self w hw) ?_
      simp only [if_true, bne_self_eq_false]
      refine Ev.step (fun k => by simp only [laws_FnExactCutsFrom.j1, Bool.false_eq_true, if_false]; rfl) (Ev.bind m1 (Ev.bind m2 ?_))
      simp only [if_neg hneg2, if_true]
      refine Ev.bind ts (Ev.bind ti (Ev.bind f2 (Ev.bind (eqInt64S_self w hw) ?_)))
      simp only [if_true, bne_self_eq_false]
      refine Ev.step (fun k => by simp only [laws_FnExactCutsFrom.j2, Bool.false_eq_true, if_false]; rfl) (Ev.bind m2 ?_)
      simp only [if_neg hneg2, if_true]; exact Ev.now _
    · simp only [if_neg h, show ((-1 : Int) < 0) from by omega, if_true]; exact Ev.now _
end Go.Proofs.Ytejpdeaeflmmpaa.Pure
