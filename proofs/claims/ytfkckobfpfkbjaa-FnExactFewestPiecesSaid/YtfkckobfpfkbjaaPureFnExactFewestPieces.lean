/- The program's FewestPieces and the reference's give the same answer at all yarns, knots and needs; no conditions. -/
import Derived.Test.YtfkckobfpfkbjaaXFnExactFewestPiecesx5
namespace Go.Proofs.Ytfkckobfpfkbjaa.Pure
open Go.RowKit Go.Proofs.Ytfkckobfpfkbjaa.XFnExactFewestPieces Go.Proofs.YtfkckobfpfkbjaaW.PrintWords Go.Proofs.YtfkckobfpfkbjaaW.PrintLast
set_option linter.unusedVariables false
set_option linter.unusedSimpArgs false
theorem wr {n : Int} (h0 : -9223372036854775808 ≤ n) (h1 : n ≤ 9223372036854775807) : wrap64 n = n := by
  unfold wrap64; omega
theorem wf64 {a : Int} (h : (Lit.int .i64 a).wf = true) : -9223372036854775808 ≤ a ∧ a ≤ 9223372036854775807 := by
  simp only [Lit.wf, IntKind.min, IntKind.max, IntKind.signed, IntKind.bits, Bool.and_eq_true, decide_eq_true_eq, if_true] at h
  omega
theorem ev_id {α : Type} {g : Nat → Option α} {r s : α} (h : Ev g r) (e : r = s) : Ev g s := e ▸ h
theorem ev_const {α : Type} {o : Option α} {r : α} (h : o = some r) : Ev (fun _ => o) r := ⟨0, fun _ _ => h⟩
theorem ev_fun {α : Type} {g : Nat → Option α} {r s : α} (h : Ev g r) (k : Ev g s) : r = s := by
  obtain ⟨a, h⟩ := h
  obtain ⟨b, k⟩ := k
  have x := h (max a b) (by omega)
  have y := k (max a b) (by omega)
  rw [x] at y; exact Option.some.inj y
/-- Both come to one answer. -/
def Same {α : Type} (g f : Nat → Option α) : Prop := ∃ r, Ev g r ∧ Ev f r
theorem Same.step {α : Type} {g f g' f' : Nat → Option α} (hg : ∀ k, g (k + 1) = g' k) (hf : ∀ k, f (k + 1) = f' k) (h : Same g' f') : Same g f := by
  obtain ⟨r, a, b⟩ := h
  exact ⟨r, Ev.step hg a, Ev.step hf b⟩
theorem Same.left {α : Type} {g f g' : Nat → Option α} (hg : ∀ k, g (k + 1) = g' k) (h : Same g' f) : Same g f := by
  obtain ⟨r, a, b⟩ := h
  exact ⟨r, Ev.step hg a, b⟩
theorem Same.right {α : Type} {g f f' : Nat → Option α} (hf : ∀ k, f (k + 1) = f' k) (h : Same g f') : Same g f := by
  obtain ⟨r, a, b⟩ := h
  exact ⟨r, a, Ev.step hf b⟩
theorem Same.now {α : Type} (r : α) : Same (fun _ => some r) (fun _ => some r) := ⟨r, Ev.now r, Ev.now r⟩
theorem if_dec {α : Type} {p : Prop} [Decidable p] (a b : α) : (if decide p = true then a else b) = if p then a else b := by
  by_cases h : p <;> simp [h]
theorem w00 : wrap64 0 = 0 := wr (by omega) (by omega)
theorem l00In_f (a b c : Int) : spec_l00In.f a b c = some (decide (b ≤ a ∧ a ≤ c)) := by
  unfold spec_l00In.f
  by_cases h : b ≤ a <;> simp [h]
theorem within_f (a b c : Int) : impl_within.f a b c = some (decide (b ≤ a ∧ a ≤ c)) := by
  unfold impl_within.f
  by_cases h : b ≤ a <;> simp [h]
theorem rd_lt {l : List Int} {i : Nat} (h : i < l.length) : rd l (i : Int) = l[i] := by
  unfold rd; simp [List.getD, h]
theorem eqInt64S_loop (a b : List Int) (hab : a.length = b.length) (hn : (a.length : Int) ≤ 4611686018427387904) (d : Nat) : ∀ (i : Nat), i ≤ a.length → a.length - i = d →
    Ev (fun k => laws_eqInt64S.l0 k a b (i : Int)) (decide (a.drop i = b.drop i)) := by
  induction d with
  | zero =>
    intro i hi hd
    refine Ev.step (f := fun _ => some (decide (a.drop i = b.drop i))) (fun k => ?_) (Ev.now _)
    simp only [laws_eqInt64S.l0]
    rw [if_neg (by omega), List.drop_eq_nil_of_le (by omega), List.drop_eq_nil_of_le (by omega)]; simp
  | succ d ih =>
    intro i hi hd
    have ha : i < a.length := by omega
    have hb : i < b.length := by omega
    by_cases e : a[i] = b[i]
    · refine Ev.step (fun k => ?_) (ev_id (ih (i + 1) (by omega) (by omega)) ?_)
      · simp only [laws_eqInt64S.l0]
        rw [if_pos (by omega), if_pos (by omega), if_pos (by omega), rd_lt ha, rd_lt hb, if_pos e, wr (by omega) (by omega)]; rfl
      · simp only [List.drop_eq_getElem_cons ha, List.drop_eq_getElem_cons hb, List.cons.injEq, e, true_and]
    · refine Ev.step (f := fun _ => some false) (fun k => ?_) (ev_id (Ev.now _) ?_)
      · simp only [laws_eqInt64S.l0]
        rw [if_pos (by omega), if_pos (by omega), if_pos (by omega), rd_lt ha, rd_lt hb, if_neg e]
      · simp only [List.drop_eq_getElem_cons ha, List.drop_eq_getElem_cons hb, List.cons.injEq, e, false_and, decide_false]
theorem eqInt64S_ev (a b : List Int) (hn : (a.length : Int) ≤ 4611686018427387904) : Ev (fun k => laws_eqInt64S.f k a b) (decide (a = b)) := by
  unfold laws_eqInt64S.f
  by_cases h : a.length = b.length
  · simp only [h, if_true]
    simpa using eqInt64S_loop a b h hn a.length 0 (by omega) (by omega)
  · have h' : ¬ (a.length : Int) = b.length := by omega
    simp only [if_neg h']
    have : a ≠ b := fun e => h (by rw [e])
    simpa [this] using Ev.now false
theorem eqInt64S_self (a : List Int) (hn : (a.length : Int) ≤ 4611686018427387904) : Ev (fun k => laws_eqInt64S.f k a a) true := by
  simpa using eqInt64S_ev a a hn
theorem markInt64S_loop (d : Nat) : ∀ (a p : List Int) (m : Int) (i : Nat), i + d = a.length → (a.length : Int) ≤ 4611686018427387904 → m = 1 + i → (∀ j (h : j < a.length), j < i → a[j] = 1 + (j : Int)) →
    ∃ r : List Int, Ev (fun k => laws_markInt64S.l0 k a m (i : Int)) (1 + (a.length : Int), r) ∧ r.length = a.length ∧ ∀ j (h : j < r.length), r[j] = 1 + (j : Int) := by
  induction d with
  | zero =>
    intro a p m i hi hn hm ha
    refine ⟨a, Ev.step (f := fun _ => some (1 + (a.length : Int), a)) (fun k => ?_) (Ev.now _), rfl, fun j h => ha j h (by omega)⟩
    simp only [laws_markInt64S.l0]
    rw [if_neg (by omega), show m = 1 + (a.length : Int) by omega]
  | succ d ih =>
    intro a p m i hi hn hm ha
    obtain ⟨r, h1, h2, h3⟩ := ih (a.set i m) p (m + 1) (i + 1) (by simp; omega) (by simpa using hn) (by omega) (by
      intro j h hj
      simp only [List.getElem_set]
      split
      · omega
      · exact ha j (by simpa using h) (by omega))
    simp only [List.length_set] at h1 h2
    refine ⟨r, Ev.step (fun k => ?_) h1, h2, h3⟩
    simp only [laws_markInt64S.l0]
    rw [if_pos (by omega), if_pos (by omega), wr (n := m + 1) (by omega) (by omega), wr (n := (i : Int) + 1) (by omega) (by omega)]; rfl
theorem heldInt64S_loop (a : List Int) (hn : (a.length : Int) ≤ 4611686018427387904) (ha : ∀ j (h : j < a.length), a[j] = 1 + (j : Int)) (d : Nat) : ∀ (i : Nat), i + d = a.length →
    Ev (fun k => laws_heldInt64S.l0 k a (1 + (i : Int)) (i : Int)) (1 + (a.length : Int)) := by
  induction d with
  | zero =>
    intro i hi
    refine Ev.step (f := fun _ => some (1 + (a.length : Int))) (fun k => ?_) (Ev.now _)
    simp only [laws_heldInt64S.l0]
    rw [if_neg (by omega), show i = a.length by omega]
  | succ d ih =>
    intro i hi
    refine Ev.step (fun k => ?_) (ih (i + 1) (by omega))
    simp only [laws_heldInt64S.l0]
    rw [if_pos (by omega), if_pos (by omega), rd_lt (by omega), if_pos (ha i (by omega)), wr (n := 1 + (i : Int) + 1) (by omega) (by omega), wr (n := (i : Int) + 1) (by omega) (by omega), show 1 + (i : Int) + 1 = 1 + ((i + 1 : Nat) : Int) by omega]; rfl
/-- What has been marked is held. -/
theorem markInt64S_ev (a : List Int) (hn : (a.length : Int) ≤ 4611686018427387904) :
    ∃ r : List Int, Ev (fun k => laws_markInt64S.f k a 1) (1 + (a.length : Int), r) ∧ Ev (fun k => laws_heldInt64S.f k r 1) (1 + (a.length : Int)) := by
  obtain ⟨r, h1, h2, h3⟩ := markInt64S_loop a.length a a 1 0 (by omega) hn (by omega) (fun j h hj => by omega)
  refine ⟨r, h1, ?_⟩
  have := heldInt64S_loop r (by omega) h3 r.length 0 (by omega)
  rw [h2] at this
  exact this
abbrev LY := S109
abbrev IY := S106
def toY (x : LY) : IY := ⟨x.f0, x.f1, x.f2⟩
theorem rdIY {l : List IY} {i : Nat} (h : i < l.length) : rd_T106 l (i : Int) = l[i] := by
  unfold rd_T106; simp [List.getD, h]
theorem rdLY {l : List LY} {i : Nat} (h : i < l.length) : rd_T109 l (i : Int) = l[i] := by
  unfold rd_T109; simp [List.getD, h]
theorem szYarn_f (l : List LY) (n : Int) (h0 : (l.length : Int) ≤ 140737488351232) (hn : 0 ≤ n ∧ n ≤ 1048576) : laws_szYarnS.f l n = some (if (l.length : Int) ≤ n then n - l.length else -1) := by
  unfold laws_szYarnS.f
  rw [wr (by omega) (by omega)]
  by_cases h : (l.length : Int) ≤ n
  · rw [if_neg (by omega), if_pos h]
  · rw [if_pos (by omega), if_neg h]
theorem toYarnS_loop (l : List LY) (hl : (l.length : Int) ≤ 140737488351232) (d : Nat) : ∀ (out rest : List IY) (i : Nat), out.length = i → rest.length = d → i + d = l.length →
    Ev (fun k => laws_toYarnS.l0 k l (out ++ rest) (i : Int)) (out ++ (l.drop i).map toY) := by
  induction d with
  | zero =>
    intro out rest i ho hr hi
    refine Ev.step (f := fun _ => some (out ++ (l.drop i).map toY)) (fun k => ?_) (Ev.now _)
    simp only [laws_toYarnS.l0]
    rw [if_neg (by omega), List.drop_eq_nil_of_le (by omega), List.length_eq_zero_iff.1 hr]; simp
  | succ d ih =>
    intro out rest i ho hr hi
    have hil : i < l.length := by omega
    obtain ⟨y, rest, rfl⟩ : ∃ y r, rest = y :: r := by cases rest with | nil => simp at hr | cons y r => exact ⟨y, r, rfl⟩
    refine Ev.step (fun k => ?_) (ev_id (ih (out ++ [toY l[i]]) rest (i + 1) (by simp; omega) (by simpa using hr) (by omega)) ?_)
    · simp only [laws_toYarnS.l0, laws_toYarn.f, Option.bind_some]
      rw [if_pos (by omega), if_pos (by omega), if_pos (by simp; omega), rdLY hil, wr (n := (i : Int) + 1) (by omega) (by omega)]
      have : (out ++ y :: rest).set (i : Int).toNat (⟨l[i].f0, l[i].f1, l[i].f2⟩ : IY) = out ++ [toY l[i]] ++ rest := by
        rw [Int.toNat_natCast, List.set_append_right _ _ (by omega), ho]; simp [toY]
      rw [this]; rfl
    · rw [List.drop_eq_getElem_cons hil]; simp only [List.map_cons, List.append_assoc, List.cons_append, List.nil_append]
theorem toYarnS_ev (l : List LY) (hl : (l.length : Int) ≤ 140737488351232) (hl2 : l.length ≤ 46912496118442) : Ev (fun k => laws_toYarnS.f k l) (l.map toY) := by
  unfold laws_toYarnS.f
  have h0 : (0 : Int) ≤ (l.length : Int) := by omega
  have h1 : ((l.length : Int) : Int).toNat ≤ 46912496118442 := by omega
  simp only [if_pos h0, if_pos h1]
  have := toYarnS_loop l hl l.length [] (List.replicate l.length z106) 0 rfl (by simp) (by omega)
  simpa using this
theorem eqYarnS_loop (l : List IY) (hl : (l.length : Int) ≤ 140737488351232) (d : Nat) : ∀ (i : Nat), i + d = l.length → Ev (fun k => laws_eqYarnS.l0 k l l (i : Int)) true := by
  induction d with
  | zero =>
    intro i hi
    refine Ev.step (f := fun _ => some true) (fun k => ?_) (Ev.now _)
    simp only [laws_eqYarnS.l0]; rw [if_neg (by omega)]
  | succ d ih =>
    intro i hi
    refine Ev.step (fun k => ?_) (ih (i + 1) (by omega))
    simp only [laws_eqYarnS.l0, laws_eqYarn.f, if_true, Option.bind_some]
    rw [if_pos (by omega), if_pos (by omega), if_pos (by omega), wr (n := (i : Int) + 1) (by omega) (by omega)]; rfl
theorem eqYarnS_self (l : List IY) (hl : (l.length : Int) ≤ 140737488351232) : Ev (fun k => laws_eqYarnS.f k l l) true := by
  unfold laws_eqYarnS.f
  simp only [if_true]
  exact eqYarnS_loop l hl l.length 0 (by omega)
/-- What a valid yarn is. -/
def vY (x : IY) : Bool := decide ((1 ≤ wrap64 x.f0 ∧ wrap64 x.f0 ≤ 5000) ∧ (-2000 ≤ wrap64 x.f1 ∧ wrap64 x.f1 ≤ 2000) ∧ (1 ≤ wrap64 x.f2 ∧ wrap64 x.f2 ≤ 2000))
theorem vY_spec (x : IY) : spec_l03Yarn.f x.f0 x.f1 x.f2 = some (vY x) := by
  unfold spec_l03Yarn.f vY
  simp only [l00In_f, Option.bind_some, if_dec]
  by_cases h1 : 1 ≤ wrap64 x.f0 ∧ wrap64 x.f0 ≤ 5000 <;> by_cases h2 : -2000 ≤ wrap64 x.f1 ∧ wrap64 x.f1 ≤ 2000 <;> simp [h1, h2]
theorem vY_impl (x : IY) : impl_ValidYarn.f x.f0 x.f1 x.f2 = some (vY x) := by
  unfold impl_ValidYarn.f vY
  simp only [within_f, Option.bind_some, if_dec]
  by_cases h1 : 1 ≤ wrap64 x.f0 ∧ wrap64 x.f0 ≤ 5000 <;> by_cases h2 : -2000 ≤ wrap64 x.f1 ∧ wrap64 x.f1 ≤ 2000 <;> simp [h1, h2]
theorem vYarn_eq : vYarn = vY := by
  funext x
  have h := vYarn_f x
  rw [vY_impl] at h
  exact (Option.some.inj h).symm
/-- The code of yarns. -/
def yCode (l : List IY) (b : Bool) : Int := if l.all vY = true then (if b = true then (if (l.length : Int) > 10 then 3 else 0) else 2) else 1
theorem impl_yCode (l : List IY) (b : Bool) (hl : (l.length : Int) ≤ 140737488351232) : impl_yarnsCode.f l b = some (yCode l b) := by
  unfold impl_yarnsCode.f yCode
  rw [if_pos (by omega), vYarn_eq]
theorem spec_yCode_loop (l : List IY) (b : Bool) (hl : (l.length : Int) ≤ 140737488351232) (d : Nat) : ∀ (i : Nat), i + d = l.length → (∀ x ∈ l.take i, vY x = true) →
    Ev (fun k => spec_l03Asked.l0 k l b (i : Int)) (yCode l b) := by
  induction d with
  | zero =>
    intro i hi ha
    refine Ev.step (f := fun _ => some (yCode l b)) (fun k => ?_) (Ev.now _)
    simp only [spec_l03Asked.l0]
    have : l.all vY = true := by
      rw [List.all_eq_true]; intro x hx; exact ha x (by rw [List.take_of_length_le (by omega)]; exact hx)
    rw [if_neg (by omega)]
    unfold yCode
    rw [if_pos this]
    cases b <;> simp <;> split <;> rfl
  | succ d ih =>
    intro i hi ha
    have hil : i < l.length := by omega
    cases hv : vY l[i] with
    | true =>
      refine Ev.step (fun k => ?_) (ih (i + 1) (by omega) ?_)
      · simp only [spec_l03Asked.l0, rdIY hil, vY_spec, Option.bind_some, hv, if_true]
        rw [if_pos (by omega), if_pos (by omega), wr (n := (i : Int) + 1) (by omega) (by omega)]; rfl
      · intro x hx
        rw [List.take_succ_eq_append_getElem hil] at hx
        rcases List.mem_append.1 hx with h | h
        · exact ha x h
        · simp at h; rw [h]; exact hv
    | false =>
      refine Ev.step (f := fun _ => some (yCode l b)) (fun k => ?_) (Ev.now _)
      simp only [spec_l03Asked.l0, rdIY hil, vY_spec, Option.bind_some, hv]
      rw [if_pos (by omega), if_pos (by omega)]
      have : ¬ l.all vY = true := by
        intro h
        have := List.all_eq_true.1 h l[i] (List.getElem_mem _)
        rw [hv] at this; cases this
      unfold yCode
      rw [if_neg this]; simp
theorem spec_yCode (l : List IY) (b : Bool) (hl : (l.length : Int) ≤ 140737488351232) : Ev (fun k => spec_l03Asked.f k l b) (yCode l b) := by
  unfold spec_l03Asked.f
  exact spec_yCode_loop l b hl l.length 0 (by omega) (by simp)
theorem yCode_zero {l : List IY} {b : Bool} (h : yCode l b = 0) : (∀ x ∈ l, vY x = true) ∧ b = true ∧ l.length ≤ 10 := by
  unfold yCode at h
  by_cases h1 : l.all vY = true
  · rw [if_pos h1] at h
    by_cases h2 : b = true
    · rw [if_pos h2] at h
      by_cases h3 : (l.length : Int) > 10
      · rw [if_pos h3] at h; omega
      · exact ⟨List.all_eq_true.1 h1, h2, by omega⟩
    · rw [if_neg h2] at h; omega
  · rw [if_neg h1] at h; omega
theorem wadd (a b : Int) : wrap64 (wrap64 a + b) = wrap64 (a + b) := by unfold wrap64; omega
theorem wsum (a b : Int) : wrap64 (a + wrap64 b) = wrap64 (a + b) := by unfold wrap64; omega
theorem markYarnS_loop (d : Nat) : ∀ (a : List IY) (m : Int) (i : Nat), i + d = a.length → (a.length : Int) ≤ 1073741824 → 0 ≤ m → m + 3 * d ≤ 4611686018427387904 →
    ∃ r : List IY, Ev (fun k => laws_markYarnS.l0 k a m (i : Int)) (m + 3 * d, r) := by
  induction d with
  | zero =>
    intro a m i hi hn h0 h1
    refine ⟨a, Ev.step (f := fun _ => some (m, a)) (fun k => ?_) (ev_id (Ev.now _) (by simp))⟩
    simp only [laws_markYarnS.l0]
    rw [if_neg (by omega)]
  | succ d ih =>
    intro a m i hi hn h0 h1
    have w1 : wrap64 (m + 1) = m + 1 := wr (by omega) (by omega)
    have w2 : wrap64 (m + 1 + 1) = m + 2 := by rw [wr (by omega) (by omega)]; omega
    have w4 : wrap64 (m + 2 + 1) = m + 3 := by rw [wr (by omega) (by omega)]; omega
    have w3 : wrap64 ((i : Int) + 1) = ((i + 1 : Nat) : Int) := by rw [wr (by omega) (by omega)]; omega
    have step : ∀ b1 b2 b3 : List IY, b1 = a.set i (⟨IntKind.i16.wrap m, (rd_T106 a i).f1, (rd_T106 a i).f2⟩ : IY) → b2 = b1.set i (⟨(rd_T106 b1 i).f0, IntKind.i16.wrap (m + 1), (rd_T106 b1 i).f2⟩ : IY) → b3 = b2.set i (⟨(rd_T106 b2 i).f0, (rd_T106 b2 i).f1, IntKind.i16.wrap (m + 2)⟩ : IY) →
        b3.length = a.length ∧ ∀ k, laws_markYarnS.l0 (k + 1) a m (i : Int) = laws_markYarnS.l0 k b3 (m + 3) ((i + 1 : Nat) : Int) := by
      intro b1 b2 b3 e1 e2 e3
      refine ⟨by rw [e3, e2, e1]; simp, fun k => ?_⟩
      simp only [laws_markYarnS.l0, Option.bind_some, w1, w2, w3, w4, Int.toNat_natCast]
      rw [if_pos (by omega), if_pos (by omega), ← e1, ← e2, ← e3]
    obtain ⟨hb, eb⟩ := step _ _ _ rfl rfl rfl
    generalize List.set _ i _ = b at hb eb
    obtain ⟨r, h⟩ := ih b (m + 3) (i + 1) (by omega) (by omega) (by omega) (by omega)
    exact ⟨r, Ev.step eb (ev_id h (by rw [Prod.mk.injEq]; exact ⟨by omega, rfl⟩))⟩
theorem markYarnS_ev (a : List IY) (hn : (a.length : Int) ≤ 1073741824) : ∃ r : List IY, Ev (fun k => laws_markYarnS.f k a 1) (1 + 3 * (a.length : Int), r) := by
  obtain ⟨r, h⟩ := markYarnS_loop a.length a 1 0 (by omega) hn (by omega) (by omega)
  exact ⟨r, h⟩
/-- Numbers, as the program has them. -/
def up (N : List Nat) : List Int := N.map fun (j : Nat) => (j : Int)
theorem up_len (N : List Nat) : (up N).length = N.length := by unfold up; simp
theorem rd_up {N : List Nat} {j : Nat} (h : j < N.length) : rd (up N) (j : Int) = ((N[j] : Nat) : Int) := by
  unfold rd up; simp [List.getD, h]
/-- Which list comes first? -/
def lx : List Nat → List Nat → Bool
  | x :: a, y :: b => decide (x < y) || (decide (x = y) && lx a b)
  | [], _ :: _ => true
  | _, [] => false
/-- What slices.Compare answers. -/
def cmpV : List Nat → List Nat → Int
  | x :: a, y :: b => if x < y then -1 else if y < x then 1 else cmpV a b
  | [], _ :: _ => -1
  | _ :: _, [] => 1
  | [], [] => 0
theorem cmpV_lx : ∀ a b : List Nat, cmpV a b < 0 ↔ lx a b = true
  | [], [] => by simp [cmpV, lx]
  | [], _ :: _ => by simp [cmpV, lx]
  | _ :: _, [] => by simp [cmpV, lx]
  | x :: a, y :: b => by
    simp only [cmpV, lx, Bool.or_eq_true, Bool.and_eq_true, decide_eq_true_eq]
    rcases Nat.lt_trichotomy x y with e | e | e
    · rw [if_pos e]; simp [e]
    · subst e
      rw [if_neg (by omega), if_neg (by omega), cmpV_lx a b]
      simp
    · rw [if_neg (by omega), if_pos e]
      constructor
      · intro h; omega
      · rintro (h | ⟨h, _⟩) <;> omega
theorem compare_loop (a b : List Nat) (ha : a.length ≤ 16) (hb : b.length ≤ 16) (d : Nat) : ∀ (i : Nat), i + d = a.length → i ≤ b.length →
    Ev (fun k => slices_Compare_int64_int64.l0 k (up a) (up b) (up a) (a.length : Int) (i : Int)) (cmpV (a.drop i) (b.drop i)) := by
  induction d with
  | zero =>
    intro i hi hib
    have u1 := up_len a
    have u2 := up_len b
    rw [show a.drop i = [] from List.drop_eq_nil_of_le (by omega)]
    refine Ev.step (f := fun _ => some (cmpV [] (b.drop i))) (fun k => ?_) (Ev.now _)
    simp only [slices_Compare_int64_int64.l0, u1, u2]
    rw [if_neg (by omega)]
    by_cases h : a.length < b.length
    · have hi2 : i < b.length := by omega
      rw [if_pos (by omega), List.drop_eq_getElem_cons hi2]; rfl
    · rw [if_neg (by omega), List.drop_eq_nil_of_le (by omega)]; rfl
  | succ d ih =>
    intro i hi hib
    have hil : i < a.length := by omega
    have u1 := up_len a
    have u2 := up_len b
    have c1 : (i : Int) < (a.length : Int) := by omega
    have c2 : (0 : Int) ≤ (i : Int) := by omega
    rw [List.drop_eq_getElem_cons hil]
    by_cases hb2 : i < b.length
    · rw [List.drop_eq_getElem_cons hb2]
      have c3 : ¬ (i : Int) ≥ (b.length : Int) := by omega
      have c4 : (i : Int) < (b.length : Int) := by omega
      have cmp : cmp_Compare_int64.f ((a[i] : Nat) : Int) ((b[i] : Nat) : Int) = some (if a[i] < b[i] then -1 else if b[i] < a[i] then 1 else 0) := by
        unfold cmp_Compare_int64.f cmp_isNaN_int64.f
        simp only [bne_self_eq_false, Option.bind_some, Bool.false_eq_true, if_false]
        by_cases x : a[i] < b[i]
        · rw [if_pos (by omega), if_pos x]
        · rw [if_neg (by omega), if_neg x]
          by_cases y : b[i] < a[i]
          · rw [if_pos (by omega), if_pos y]
          · rw [if_neg (by omega), if_neg y]
      simp only [cmpV]
      by_cases x : a[i] < b[i]
      · rw [if_pos x]
        rw [if_pos x] at cmp
        refine Ev.step (f := fun _ => some (-1)) (fun k => ?_) (Ev.now _)
        simp only [slices_Compare_int64_int64.l0, u1, u2, if_pos c1, if_pos c2, if_neg c3, if_pos c4, rd_up hil, rd_up hb2, cmp, Option.bind_some]
        rfl
      · rw [if_neg x]
        rw [if_neg x] at cmp
        by_cases y : b[i] < a[i]
        · rw [if_pos y]
          rw [if_pos y] at cmp
          refine Ev.step (f := fun _ => some 1) (fun k => ?_) (Ev.now _)
          simp only [slices_Compare_int64_int64.l0, u1, u2, if_pos c1, if_pos c2, if_neg c3, if_pos c4, rd_up hil, rd_up hb2, cmp, Option.bind_some]
          rfl
        · rw [if_neg y]
          rw [if_neg y] at cmp
          refine Ev.step (fun k => ?_) (ih (i + 1) (by omega) (by omega))
          simp only [slices_Compare_int64_int64.l0, u1, u2, if_pos c1, if_pos c2, if_neg c3, if_pos c4, rd_up hil, rd_up hb2, cmp, Option.bind_some, if_true]
          rw [wr (n := (i : Int) + 1) (by omega) (by omega)]; rfl
    · rw [show b.drop i = [] from List.drop_eq_nil_of_le (by omega)]
      have c3 : (i : Int) ≥ (b.length : Int) := by omega
      refine Ev.step (f := fun _ => some 1) (fun k => ?_) (Ev.now _)
      simp only [slices_Compare_int64_int64.l0, u1, u2, if_pos c1, if_pos c2, if_pos c3]
theorem compare_ev (a b : List Nat) (ha : a.length ≤ 16) (hb : b.length ≤ 16) : Ev (fun k => slices_Compare_int64_int64.f k (up a) (up b)) (cmpV a b) := by
  unfold slices_Compare_int64_int64.f
  have := compare_loop a b ha hb a.length 0 (by omega) (by omega)
  rw [up_len]
  simpa using this
theorem before_loop (a b : List Nat) (ha : a.length ≤ 16) (hb : b.length ≤ 16) (d : Nat) : ∀ (i : Nat), i + d = a.length → i ≤ b.length →
    Ev (fun k => spec_l03Before.l0 k (up a) (up b) (i : Int)) (lx (a.drop i) (b.drop i)) := by
  induction d with
  | zero =>
    intro i hi hib
    have u1 := up_len a
    have u2 := up_len b
    rw [show a.drop i = [] from List.drop_eq_nil_of_le (by omega)]
    refine Ev.step (fun k => by simp only [spec_l03Before.l0, u1]; rw [if_neg (by omega)]) (Ev.step (f := fun _ => some (decide ((a.length : Int) < (b.length : Int)))) (fun k => by simp only [spec_l03Before.j1, Bool.false_eq_true, if_false, u1, u2]) (ev_id (Ev.now _) ?_))
    by_cases h : a.length < b.length
    · have hi2 : i < b.length := by omega
      rw [decide_eq_true (by omega), List.drop_eq_getElem_cons hi2]; rfl
    · rw [decide_eq_false (by omega), List.drop_eq_nil_of_le (by omega)]; rfl
  | succ d ih =>
    intro i hi hib
    have hil : i < a.length := by omega
    have u1 := up_len a
    have u2 := up_len b
    have c1 : (i : Int) < (a.length : Int) := by omega
    have c2 : (0 : Int) ≤ (i : Int) := by omega
    rw [List.drop_eq_getElem_cons hil]
    by_cases hb2 : i < b.length
    · rw [List.drop_eq_getElem_cons hb2]
      have c4 : (i : Int) < (b.length : Int) := by omega
      refine Ev.step (fun k => by simp only [spec_l03Before.l0, u1, u2, if_pos c1, decide_eq_true c4]; rfl) ?_
      simp only [lx]
      by_cases x : a[i] = b[i]
      · have x' : ((a[i] : Nat) : Int) = ((b[i] : Nat) : Int) := by omega
        refine Ev.step (fun k => ?_) (ev_id (ih (i + 1) (by omega) (by omega)) (by rw [x]; simp))
        simp only [spec_l03Before.j1, if_true, u1, u2, if_pos c1, if_pos c2, if_pos c4, rd_up hil, rd_up hb2, if_pos x']
        rw [wr (n := (i : Int) + 1) (by omega) (by omega)]; rfl
      · have x' : ¬ ((a[i] : Nat) : Int) = ((b[i] : Nat) : Int) := by omega
        refine Ev.step (f := fun _ => some (decide (((a[i] : Nat) : Int) < ((b[i] : Nat) : Int)))) (fun k => ?_) (ev_id (Ev.now _) ?_)
        · simp only [spec_l03Before.j1, if_true, u1, u2, if_pos c1, if_pos c2, if_pos c4, rd_up hil, rd_up hb2, if_neg x']
        · rw [decide_eq_false x, Bool.false_and, Bool.or_false]
          by_cases y : a[i] < b[i]
          · rw [decide_eq_true y, decide_eq_true (by omega)]
          · rw [decide_eq_false y, decide_eq_false (by omega)]
    · have c4 : ¬ (i : Int) < (b.length : Int) := by omega
      rw [show b.drop i = [] from List.drop_eq_nil_of_le (by omega)]
      refine Ev.step (fun k => by simp only [spec_l03Before.l0, u1, u2, if_pos c1, decide_eq_false c4]; rfl) (Ev.step (f := fun _ => some false) (fun k => ?_) (Ev.now _))
      simp only [spec_l03Before.j1, Bool.false_eq_true, if_false, u1, u2]
      rw [decide_eq_false (by omega)]
theorem before_ev (a b : List Nat) (ha : a.length ≤ 16) (hb : b.length ≤ 16) : Ev (fun k => spec_l03Before.f k (up a) (up b)) (lx a b) := by
  unfold spec_l03Before.f
  have := before_loop a b ha hb a.length 0 (by omega) (by omega)
  simpa using this
theorem shorter_ev (a b : List Nat) (ha : a.length ≤ 16) (hb : b.length ≤ 16) : Ev (fun k => impl_isShorter.f k (up a) (up b)) (decide (a.length < b.length) || (decide (a.length = b.length) && lx a b)) := by
  unfold impl_isShorter.f
  simp only [up_len]
  by_cases h1 : a.length < b.length
  · have h1' : (a.length : Int) < (b.length : Int) := by omega
    simp only [if_pos h1', decide_eq_true h1, Bool.true_or]; exact Ev.now _
  · have h1' : ¬ (a.length : Int) < (b.length : Int) := by omega
    simp only [if_neg h1', decide_eq_false h1, Bool.false_or]
    by_cases h2 : a.length = b.length
    · have h2' : (a.length : Int) = (b.length : Int) := by omega
      simp only [if_pos h2', decide_eq_true h2, Bool.true_and]
      refine Ev.bind (compare_ev a b ha hb) (ev_id (Ev.now _) ?_)
      cases hl : lx a b with
      | true => rw [decide_eq_true ((cmpV_lx a b).2 hl)]
      | false => rw [decide_eq_false (fun q => by rw [(cmpV_lx a b).1 q] at hl; cases hl)]
    · have h2' : ¬ (a.length : Int) = (b.length : Int) := by omega
      simp only [if_neg h2', decide_eq_false h2, Bool.false_and]; exact Ev.now _
/-- The numbers of the bits that are set. -/
def mN (b : Nat) : List Nat := (List.range 10).filter fun i => b.testBit i
theorem mem_bf : ∀ b : Nat, b < 1024 → impl_members.f 13 (b : Int) = some (up (mN b)) := by decide +kernel
theorem members_ev {b : Nat} (h : b < 1024) : Ev (fun k => impl_members.f k (b : Int)) (up (mN b)) :=
  ⟨13, fun k hk => at_rounds (fun k => impl_members.mono (b : Int) k) hk (mem_bf b h)⟩
theorem bit_bf : ∀ b : Nat, b < 1024 → ∀ i : Nat, i < 10 → decide (Go.bits .and .i64 (shr .i64 (b : Int) (i : Int)) 1 = 1) = b.testBit i := by decide +kernel
theorem pos_bf : ∀ b : Nat, b < 1024 → 0 < b → 0 < (mN b).length := by decide +kernel
theorem shl_bf : ∀ n : Nat, n < 11 → shl .i64 1 (n : Int) = ((2 ^ n : Nat) : Int) := by decide +kernel
theorem low_bf : ((List.range 11).all fun n => (List.range (2 ^ n)).all fun b => decide ((List.range n).filter (fun i => b.testBit i) = mN b)) = true := by decide +kernel
theorem low_eq {n b : Nat} (hn : n ≤ 10) (hb : b < 2 ^ n) : (List.range n).filter (fun i => b.testBit i) = mN b := by
  have z := List.all_eq_true.1 low_bf n (List.mem_range.2 (by omega))
  exact of_decide_eq_true (List.all_eq_true.1 z b (List.mem_range.2 hb))
theorem mN_len (b : Nat) : (mN b).length ≤ 10 := by
  unfold mN
  exact Nat.le_trans (List.length_filter_le _ _) (by simp)
theorem u64_small {n : Nat} (h : n ≤ 1000) : IntKind.u64.wrap (n : Int) = (n : Int) := by
  simp only [IntKind.wrap, IntKind.bits, IntKind.signed]; simp; omega
/-- The length of pieces. -/
def sL (l : List IY) (N : List Nat) : Int := (N.map fun (i : Nat) => (rd_T106 l (i : Int)).f0).sum
def OkL (l : List IY) : Prop := ∀ x ∈ l, 1 ≤ x.f0 ∧ x.f0 ≤ 5000
section
variable (l : List IY) (hl : l.length ≤ 10) (ho : OkL l)
include hl ho
omit hl in
theorem sum_f : ∀ (N : List Nat) (a : Int), (∀ i ∈ N, i < l.length) → -1000 ≤ a → a + 5000 * (N.length : Int) ≤ 1000000 → impl_FewestPieces.sum l (up N) a = some (a + sL l N)
  | [], a, _, _, _ => by simp [impl_FewestPieces.sum, up, sL]
  | i :: N, a, hN, h0, h1 => by
    have hi := hN i (by simp)
    have o := ho l[i] (List.getElem_mem _)
    simp only [List.length_cons] at h1
    have c : (0 : Int) ≤ (i : Int) ∧ (i : Int) < (l.length : Int) := by omega
    show impl_FewestPieces.sum l ((i : Int) :: up N) a = _
    simp only [impl_FewestPieces.sum, if_pos c, rdIY hi]
    rw [wr (n := l[i].f0) (by omega) (by omega), wr (n := a + l[i].f0) (by omega) (by omega), sum_f N (a + l[i].f0) (fun j hj => hN j (List.mem_cons_of_mem _ hj)) (by omega) (by omega)]
    unfold sL
    simp only [List.map_cons, List.sum_cons, rdIY hi, Int.add_assoc]
theorem choose_loop (knot need : Int) (hk : 0 ≤ knot ∧ knot ≤ 20) (best : List Int) (found : Bool) (b : Nat) (hb : b < 2 ^ l.length) (R : List Int × Int) (d : Nat) : ∀ (i : Nat) (C : List Nat), i + d = l.length → C.length ≤ i → (∀ j ∈ C, j < l.length) → 0 ≤ sL l C → sL l C ≤ 5000 * (C.length : Int) →
    Ev (fun k => spec_FewestPieces.l1 k l knot need best found (b : Int) (up (C ++ (List.range' i d).filter fun j => b.testBit j)) (knot + sL l (C ++ (List.range' i d).filter fun j => b.testBit j) - ((C ++ (List.range' i d).filter fun j => b.testBit j).length : Int) * knot) (l.length : Int)) R →
    Ev (fun k => spec_FewestPieces.l1 k l knot need best found (b : Int) (up C) (knot + sL l C - (C.length : Int) * knot) (i : Int)) R := by
  have p2 : 2 ^ l.length ≤ 2 ^ 10 := Nat.pow_le_pow_right (by decide) hl
  have hb10 : b < 1024 := Nat.lt_of_lt_of_le hb p2
  clear p2 hb
  induction d with
  | zero =>
    intro i C hi hC hCl s0 s1 h
    have : i = l.length := by omega
    subst this
    simpa using h
  | succ d ih =>
    intro i C hi hC hCl s0 s1 h
    have hil : i < l.length := by omega
    have o := ho l[i] (List.getElem_mem _)
    have c1 : (i : Int) < (l.length : Int) := by omega
    have c2 : (0 : Int) ≤ (i : Int) := by omega
    have u := up_len C
    have wu := Aside0.mk (u64_small (n := i) (by omega))
    have w : Aside0 (wrap64 ((i : Int) + 1) = ((i + 1 : Nat) : Int)) := ⟨by rw [wr (by omega) (by omega)]; omega⟩
    have hi10 : i < 10 := Nat.lt_of_lt_of_le hil hl
    have BB := Aside0.mk (bit_bf b hb10 i hi10)
    rw [List.range'_succ, List.filter_cons] at h
    have kb : (C.length : Int) * knot ≤ 10 * 20 := Int.mul_le_mul (by omega) hk.2 hk.1 (by omega)
    have kb0 : 0 ≤ (C.length : Int) * knot := Int.mul_nonneg (by omega) hk.1
    cases ht : b.testBit i with
    | true =>
      have bb := BB.out
      rw [ht] at bb
      have bb' := of_decide_eq_true bb
      rw [ht, if_pos rfl] at h
      have es : sL l (C ++ [i]) = sL l C + l[i].f0 := by unfold sL; simp [rdIY hil]
      have el : ((C ++ [i]).length : Int) = (C.length : Int) + 1 := by simp
      have eq1 : knot + sL l (C ++ [i]) - ((C ++ [i]).length : Int) * knot = knot + sL l C - (C.length : Int) * knot + (l[i].f0 - knot) := by
        rw [es, el, Int.add_mul]; omega
      have step := ih (i + 1) (C ++ [i]) (by omega) (by simp; omega) (by
        intro j hj
        rcases List.mem_append.1 hj with hj | hj
        · exact hCl j hj
        · rw [List.mem_singleton.1 hj]; exact hil) (by rw [es]; omega) (by rw [es, el]; omega) (by simpa using h)
      refine Ev.step (fun k => ?_) step
      have hlen : (up C).length < 17592186044416 := by rw [u]; omega
      simp only [spec_FewestPieces.l1, if_pos c1, wu.out, if_pos c2, if_pos bb', if_pos hlen, rdIY hil]
      rw [wr (n := l[i].f0) (by omega) (by omega), wr (n := l[i].f0 - knot) (by omega) (by omega), wr (n := knot + sL l C - (C.length : Int) * knot + (l[i].f0 - knot)) (by omega) (by omega), w.out, ← eq1]
      have : up C ++ [(i : Int)] = up (C ++ [i]) := by unfold up; simp
      rw [this]
    | false =>
      have bb := BB.out
      rw [ht] at bb
      have bb' := of_decide_eq_false bb
      rw [ht] at h
      have step := ih (i + 1) C (by omega) (by omega) hCl s0 s1 (by simpa using h)
      refine Ev.step (fun k => ?_) step
      simp only [spec_FewestPieces.l1, if_pos c1, wu.out, if_pos c2, if_neg bb', w.out]
omit hl in
theorem sL_bound : ∀ (N : List Nat), (∀ i ∈ N, i < l.length) → 0 ≤ sL l N ∧ sL l N ≤ 5000 * (N.length : Int)
  | [], _ => by simp [sL]
  | i :: N, h => by
    have hi := h i (by simp)
    have o := ho l[i] (List.getElem_mem _)
    have z := sL_bound N (fun j hj => h j (List.mem_cons_of_mem _ hj))
    have e : sL l (i :: N) = l[i].f0 + sL l N := by unfold sL; simp [rdIY hi]
    rw [e]; simp only [List.length_cons]; omega
theorem few_loop (knot need : Int) (hk : 0 ≤ knot ∧ knot ≤ 20) (d : Nat) : ∀ (b : Nat) (best : List Nat), 0 < b → b + d = 2 ^ l.length → best.length ≤ 10 →
    ∃ r : List Int × Int, Ev (fun k => spec_FewestPieces.l0 k l knot need (up best) (decide (0 < best.length)) (b : Int)) r ∧ Ev (fun k => impl_FewestPieces.l0 k l knot need ((2 ^ l.length : Nat) : Int) (up best) (b : Int)) r ∧ (r.1.length : Int) ≤ 10 := by
  have p2 : 2 ^ l.length ≤ 2 ^ 10 := Nat.pow_le_pow_right (by decide) hl
  have wu := u64_small (n := l.length) (by omega)
  have hs := shl_bf l.length (by omega)
  have c0 : (0 : Int) ≤ (l.length : Int) := by omega
  induction d with
  | zero =>
    intro b best hb0 hb hbest
    have c1 : ¬ (b : Int) < ((2 ^ l.length : Nat) : Int) := by omega
    by_cases h : 0 < best.length
    · refine ⟨(up best, 0), Ev.step (f := fun _ => some (up best, 0)) (fun k => ?_) (Ev.now _), Ev.step (f := fun _ => some (up best, 0)) (fun k => ?_) (Ev.now _), by simp only [up_len]; omega⟩
      · simp only [spec_FewestPieces.l0, wu, if_pos c0, hs, if_neg c1, decide_eq_true h, if_true]
      · simp only [impl_FewestPieces.l0, if_neg c1, up_len]; rw [if_neg (by omega)]
    · refine ⟨([], 6), Ev.step (f := fun _ => some ([], 6)) (fun k => ?_) (Ev.now _), Ev.step (f := fun _ => some ([], 6)) (fun k => ?_) (Ev.now _), by simp⟩
      · simp only [spec_FewestPieces.l0, wu, if_pos c0, hs, if_neg c1, decide_eq_false h, Bool.false_eq_true, if_false]
      · simp only [impl_FewestPieces.l0, if_neg c1, up_len]; rw [if_pos (by omega)]
  | succ d ih =>
    intro b best hb0 hb hbest
    have hb2 : b < 2 ^ l.length := by omega
    have c1 : (b : Int) < ((2 ^ l.length : Nat) : Int) := by omega
    have w : wrap64 ((b : Int) + 1) = ((b + 1 : Nat) : Int) := by rw [wr (by omega) (by omega)]; omega
    have low := low_eq hl hb2
    have hpos := pos_bf b (by omega) hb0
    have hml := mN_len b
    have hmem : ∀ i ∈ mN b, i < l.length := by
      intro i hi
      rw [← low] at hi
      exact List.mem_range.1 (List.mem_filter.1 hi).1
    obtain ⟨s0, s1⟩ := sL_bound l ho (mN b) hmem
    -- what both come to
    have kb : ((mN b).length : Int) * knot ≤ 10 * 20 := Int.mul_le_mul (by omega) hk.2 hk.1 (by omega)
    have kb0 : 0 ≤ ((mN b).length : Int) * knot := Int.mul_nonneg (by omega) hk.1
    obtain ⟨long, hlong⟩ : ∃ x, x = knot + sL l (mN b) - ((mN b).length : Int) * knot := ⟨_, rfl⟩
    have Li : impl_FewestPieces.sum l (up (mN b)) (wrap64 (wrap64 (-knot) * wrap64 (((up (mN b)).length : Int) - 1))) = some long := by
      have e1 : -knot * (((mN b).length : Int) - 1) = knot - ((mN b).length : Int) * knot := by
        rw [Int.mul_sub, Int.mul_one, Int.neg_mul, Int.mul_comm knot]; omega
      rw [up_len, wr (n := -knot) (by omega) (by omega), wr (n := ((mN b).length : Int) - 1) (by omega) (by omega), e1, wr (n := knot - ((mN b).length : Int) * knot) (by omega) (by omega), sum_f l ho (mN b) _ hmem (by omega) (by omega), hlong]
      congr 1; omega
    have Lc : ∀ (bs : List Int) (f : Bool) (R : List Int × Int), Ev (fun k => spec_FewestPieces.l1 k l knot need bs f (b : Int) (up (mN b)) long (l.length : Int)) R → Ev (fun k => spec_FewestPieces.l0 k l knot need bs f (b : Int)) R := by
      intro bs f R h
      have z := choose_loop l hl ho knot need hk bs f b hb2 R l.length 0 [] (by omega) (by simp) (by simp) (by simp [sL]) (by simp [sL])
      rw [← List.range_eq_range', List.nil_append, low, ← hlong] at z
      have z2 := z h
      have e0 : knot + sL l [] - (([] : List Nat).length : Int) * knot = knot := by simp [sL]
      rw [e0] at z2
      refine Ev.step (fun k => ?_) z2
      simp only [spec_FewestPieces.l0, wu, if_pos c0, hs, if_pos c1]; rfl
    have nl : ¬ (l.length : Int) < (l.length : Int) := by omega
    have Ii : ∀ R, Ev (fun k => if long ≥ need then (if (up best).length = 0 then impl_FewestPieces.l0 k l knot need ((2 ^ l.length : Nat) : Int) (up (mN b)) ((b + 1 : Nat) : Int) else ((impl_isShorter.f k (up (mN b)) (up best)).bind fun q => if q = true then impl_FewestPieces.l0 k l knot need ((2 ^ l.length : Nat) : Int) (up (mN b)) ((b + 1 : Nat) : Int) else impl_FewestPieces.l0 k l knot need ((2 ^ l.length : Nat) : Int) (up best) ((b + 1 : Nat) : Int))) else impl_FewestPieces.l0 k l knot need ((2 ^ l.length : Nat) : Int) (up best) ((b + 1 : Nat) : Int)) R →
        Ev (fun k => impl_FewestPieces.l0 k l knot need ((2 ^ l.length : Nat) : Int) (up best) (b : Int)) R := by
      intro R h
      refine Ev.step (fun k => by simp only [impl_FewestPieces.l0, if_pos c1]; rfl) (Ev.bind (members_ev (b := b) (by omega)) ?_)
      have hp : 0 < (up (mN b)).length := by rw [up_len]; exact hpos
      simp only [if_pos hp, Li, Option.bind_some, w]
      exact h
    by_cases hn : long ≥ need
    · by_cases hf : 0 < best.length
      · have hf' : ¬ (up best).length = 0 := by rw [up_len]; omega
        have sh := shorter_ev (mN b) best (by omega) (by omega)
        by_cases hb1 : (decide ((mN b).length < best.length) || (decide ((mN b).length = best.length) && lx (mN b) best)) = true
        · obtain ⟨r, e1, e2, e3⟩ := ih (b + 1) (mN b) (by omega) (by omega) (by omega)
          rw [decide_eq_true hpos] at e1
          rw [hb1] at sh
          refine ⟨r, Lc _ _ _ ?_, Ii _ ?_, e3⟩
          · rw [decide_eq_true hf]
            simp only [Bool.or_eq_true, Bool.and_eq_true, decide_eq_true_eq] at hb1
            by_cases q : (mN b).length < best.length
            · have q' : ((mN b).length : Int) < (best.length : Int) := by omega
              refine Ev.step (fun k => ?_) e1
              simp only [spec_FewestPieces.l1, if_neg nl, if_pos hn, if_true, up_len, if_pos q', w]
            · have q' : ¬ ((mN b).length : Int) < (best.length : Int) := by omega
              obtain ⟨q2, q3⟩ := hb1.resolve_left q
              have q2' : ((mN b).length : Int) = (best.length : Int) := by omega
              have be := before_ev (mN b) best (by omega) (by omega)
              rw [q3] at be
              refine Ev.step (fun k => by simp only [spec_FewestPieces.l1, if_neg nl, if_pos hn, if_true, up_len, if_neg q', if_pos q2', w]; rfl) (Ev.bind be ?_)
              simp only [if_true]; exact e1
          · simp only [if_pos hn, if_neg hf']
            refine Ev.bind sh ?_
            simp only [if_true]; exact e2
        · obtain ⟨r, e1, e2, e3⟩ := ih (b + 1) best (by omega) (by omega) hbest
          rw [Bool.not_eq_true] at hb1
          rw [hb1] at sh
          rw [decide_eq_true hf] at e1
          refine ⟨r, Lc _ _ _ ?_, Ii _ ?_, e3⟩
          · rw [decide_eq_true hf]
            rw [Bool.or_eq_false_iff] at hb1
            have q : ¬ (mN b).length < best.length := of_decide_eq_false hb1.1
            have q' : ¬ ((mN b).length : Int) < (best.length : Int) := by omega
            by_cases q2 : (mN b).length = best.length
            · have q2' : ((mN b).length : Int) = (best.length : Int) := by omega
              have q3 := hb1.2
              rw [decide_eq_true q2, Bool.true_and] at q3
              have be := before_ev (mN b) best (by omega) (by omega)
              rw [q3] at be
              refine Ev.step (fun k => by simp only [spec_FewestPieces.l1, if_neg nl, if_pos hn, if_true, up_len, if_neg q', if_pos q2', w]; rfl) (Ev.bind be ?_)
              simp only [Bool.false_eq_true, if_false]; exact e1
            · have q2' : ¬ ((mN b).length : Int) = (best.length : Int) := by omega
              refine Ev.step (fun k => ?_) e1
              simp only [spec_FewestPieces.l1, if_neg nl, if_pos hn, if_true, up_len, if_neg q', if_neg q2', w]
          · simp only [if_pos hn, if_neg hf']
            refine Ev.bind sh ?_
            simp only [Bool.false_eq_true, if_false]; exact e2
      · have hf' : (up best).length = 0 := by rw [up_len]; omega
        obtain ⟨r, e1, e2, e3⟩ := ih (b + 1) (mN b) (by omega) (by omega) (by omega)
        rw [decide_eq_true hpos] at e1
        refine ⟨r, Lc _ _ _ ?_, Ii _ ?_, e3⟩
        · rw [decide_eq_false hf]
          refine Ev.step (fun k => ?_) e1
          simp only [spec_FewestPieces.l1, if_neg nl, if_pos hn, Bool.false_eq_true, if_false, w]
        · simp only [if_pos hn, if_pos hf']; exact e2
    · obtain ⟨r, e1, e2, e3⟩ := ih (b + 1) best (by omega) (by omega) hbest
      refine ⟨r, Lc _ _ _ ?_, Ii _ ?_, e3⟩
      · refine Ev.step (fun k => ?_) e1
        simp only [spec_FewestPieces.l1, if_neg nl, if_neg hn, w]
      · simp only [if_neg hn]; exact e2
end
theorem FewestPieces_same (l : List IY) (knot need : Int) (hl : (l.length : Int) ≤ 140737488351232) (hw : ∀ x ∈ l, -32768 ≤ x.f0 ∧ x.f0 ≤ 32767) :
    ∃ q : List Int × Int, Ev (fun k => spec_FewestPieces.f k l knot need) q ∧ Ev (fun k => impl_FewestPieces.f k l knot need) q ∧ (q.1.length : Int) ≤ 10 := by
  have ek : impl_isKnot.f knot = some (decide (0 ≤ knot ∧ knot ≤ 20)) := by unfold impl_isKnot.f; rw [within_f]; rfl
  have es : spec_l03Knot.f knot = some (decide (0 ≤ knot ∧ knot ≤ 20)) := by unfold spec_l03Knot.f; rw [l00In_f]; rfl
  obtain ⟨fine, hfine⟩ : ∃ x, x = (decide (0 ≤ knot ∧ knot ≤ 20) && decide (1 ≤ need ∧ need ≤ 50000)) := ⟨_, rfl⟩
  have S : ∀ q, Ev (fun k => spec_FewestPieces.j0 k l knot need (yCode l fine)) q → Ev (fun k => spec_FewestPieces.f k l knot need) q := by
    intro q h
    unfold spec_FewestPieces.f
    simp only [es, Option.bind_some, l00In_f, if_dec]
    by_cases h1 : 0 ≤ knot ∧ knot ≤ 20
    · rw [decide_eq_true h1, Bool.true_and] at hfine
      simp only [if_pos h1]
      rw [← hfine]; exact Ev.bind (spec_yCode l fine hl) h
    · rw [decide_eq_false h1, Bool.false_and] at hfine
      simp only [if_neg h1]
      rw [← hfine]; exact Ev.bind (spec_yCode l fine hl) h
  have I : ∀ q, Ev (fun k => if yCode l fine = 0 then impl_FewestPieces.l0 k l knot need (shl .i64 1 (l.length : Int)) [] 1 else some ([], yCode l fine)) q → Ev (fun k => impl_FewestPieces.f k l knot need) q := by
    intro q h
    unfold impl_FewestPieces.f
    simp only [ek, Option.bind_some, within_f, if_dec]
    by_cases h1 : 0 ≤ knot ∧ knot ≤ 20
    · rw [decide_eq_true h1, Bool.true_and] at hfine
      simp only [if_pos h1]
      rw [← hfine]; simp only [impl_yCode l fine hl, Option.bind_some]; exact h
    · rw [decide_eq_false h1, Bool.false_and] at hfine
      have hne : ¬ yCode l false = 0 := fun z => by have := (yCode_zero z).2.1; cases this
      simp only [if_neg h1]
      rw [hfine] at h
      simp only [impl_yCode l false hl, Option.bind_some, if_neg hne]
      simp only [if_neg hne] at h
      exact h
  by_cases hc : yCode l fine = 0
  · obtain ⟨hv, hf, hlen⟩ := yCode_zero hc
    rw [hfine, Bool.and_eq_true, decide_eq_true_eq] at hf
    have ho : OkL l := by
      intro x hx
      have h1 := hw x hx
      have h2 := hv x hx
      unfold vY at h2
      have z := (of_decide_eq_true h2).1
      rw [wr (n := x.f0) (by omega) (by omega)] at z
      exact z
    have h2 : 0 < 2 ^ l.length := Nat.pow_pos (by decide)
    obtain ⟨r, e1, e2, e3⟩ := few_loop l hlen ho knot need hf.1 (2 ^ l.length - 1) 1 [] (by omega) (by omega) (by simp)
    refine ⟨r, S r ?_, I r ?_, e3⟩
    · rw [hc]
      refine Ev.step (fun k => ?_) e1
      simp only [spec_FewestPieces.j0, if_true]; rfl
    · rw [hc]
      simp only [if_true]
      rw [shl_bf l.length (by omega)]; exact e2
  · refine ⟨([], yCode l fine), S _ ?_, I _ ?_, by simp⟩
    · exact Ev.step (f := fun _ => some ([], yCode l fine)) (fun k => by simp only [spec_FewestPieces.j0, if_neg hc]) (Ev.now _)
    · simp only [if_neg hc]; exact Ev.now _
theorem wfp16 {a : Int} (h : (Lit.int .i16 a).wf = true) : -32768 ≤ a ∧ a ≤ 32767 := by
  simp only [Lit.wf, IntKind.min, IntKind.max, IntKind.signed, IntKind.bits, Bool.and_eq_true, decide_eq_true_eq, if_true] at h
  omega
theorem FnExactFewestPieces : laws_FnExactFewestPieces.Pure := by
  intro l knot need ⟨hl, hw⟩ _ _
  refine Ev.rounds ?_
  unfold laws_FnExactFewestPieces.f
  simp only [szYarn_f l 1048576 (by omega) (by omega), Option.bind_some]
  by_cases h : (l.length : Int) ≤ 1048576
  · have hn : ¬ (1048576 - (l.length : Int) < 0) := by omega
    simp only [if_pos h, if_neg hn]
    have ts := toYarnS_ev l (by omega) (by omega)
    have hw' : ∀ x ∈ l.map toY, -32768 ≤ x.f0 ∧ x.f0 ≤ 32767 := by
      intro x hx
      obtain ⟨y, hy, rfl⟩ := List.mem_map.1 hx
      exact wfp16 (hw y hy).1
    obtain ⟨⟨w, c⟩, f1, f2, fl⟩ := FewestPieces_same (l.map toY) knot need (by simp; omega) hw'
    have hw2 : (w.length : Int) ≤ 4611686018427387904 := by simp only at fl; omega
    obtain ⟨s, m1, m2⟩ := markInt64S_ev w hw2
    obtain ⟨s2, n2⟩ := markYarnS_ev (l.map toY) (by simp; omega)
    have hneg1 : ¬ (1 + 3 * ((l.map toY).length : Int) < 0) := by omega
    have hneg2 : ¬ (1 + (w.length : Int) < 0) := by omega
    refine Ev.bind ts (Ev.bind f1 (Ev.bind ts (Ev.bind f2 (Ev.bind (eqInt64S_self w hw2) ?_))))
    simp only [if_true, bne_self_eq_false]
    refine Ev.step (fun k => by simp only [laws_FnExactFewestPieces.j0, Bool.false_eq_true, if_false]; rfl) (Ev.bind ts (Ev.bind (eqYarnS_self (l.map toY) (by simp; omega)) ?_))
    simp only [if_true]
    refine Ev.bind n2 ?_
    simp only [if_neg hneg1]
    refine Ev.bind (eqInt64S_self w hw2) ?_
    simp only [if_true, bne_self_eq_false]
    refine Ev.step (fun k => by simp only [laws_FnExactFewestPieces.j1, Bool.false_eq_true, if_false]; rfl) (Ev.bind m1 (Ev.bind m2 ?_))
    simp only [if_neg hneg2, if_true]
    refine Ev.bind ts (Ev.bind f2 (Ev.bind (eqInt64S_self w hw2) ?_))
    simp only [if_true, bne_self_eq_false]
    refine Ev.step (fun k => by simp only [laws_FnExactFewestPieces.j2, Bool.false_eq_true, if_false]; rfl) (Ev.bind m2 ?_)
    simp only [if_neg hneg2, if_true]; exact Ev.now _
  · simp only [if_neg h, show ((-1 : Int) < 0) from by omega, if_true]; exact Ev.now _
end Go.Proofs.Ytfkckobfpfkbjaa.Pure
