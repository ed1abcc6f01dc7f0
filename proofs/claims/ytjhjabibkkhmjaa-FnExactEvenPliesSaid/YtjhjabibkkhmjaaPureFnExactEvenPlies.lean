/- The statement of FnExactEvenPlies, over numbers and lists alone; no conditions. -/
import Derived.Test.YtjhjabibkkhmjaaXFnExactEvenPliesx5
namespace Go.Proofs.Ytjhjabibkkhmjaa.Pure
open Go.RowKit Go.Proofs.Ytjhjabibkkhmjaa.XFnExactEvenPlies Go.Proofs.YtjhjabibkkhmjaaW.PrintWords Go.Proofs.YtjhjabibkkhmjaaW.PrintLast
set_option linter.unusedVariables false
set_option linter.unusedSimpArgs false
theorem wr {n : Int} (h0 : -9223372036854775808 ≤ n) (h1 : n ≤ 9223372036854775807) : wrap64 n = n := by
  unfold wrap64; omega
theorem wf64 {a : Int} (h : (Lit.int .i64 a).wf = true) : -9223372036854775808 ≤ a ∧ a ≤ 9223372036854775807 := by
  simp only [Lit.wf, IntKind.min, IntKind.max, IntKind.signed, IntKind.bits, Bool.and_eq_true, decide_eq_true_eq, if_true] at h
  omega
theorem ev_id {α : Type} {g : Nat → Option α} {r s : α} (h : Ev g r) (e : r = s) : Ev g s := e ▸ h
theorem ev_const {α : Type} {o : Option α} {r : α} (h : o = some r) : Ev (fun _ => o) r := ⟨0, fun _ _ => h⟩
theorem ev_fun {α : Type} {g : Nat → Option α} {r s : α} (h : Ev g r) (k : Ev g s) : r = s := by
  obtain ⟨a, h⟩ := h
  obtain ⟨b, k⟩ := k
  have x := h (max a b) (by omega)
  have y := k (max a b) (by omega)
  rw [x] at y; exact Option.some.inj y
/-- Both come to one answer. -/
def Same {α : Type} (g f : Nat → Option α) : Prop := ∃ r, Ev g r ∧ Ev f r
theorem Same.step {α : Type} {g f g' f' : Nat → Option α} (hg : ∀ k, g (k + 1) = g' k) (hf : ∀ k, f (k + 1) = f' k) (h : Same g' f') : Same g f := by
  obtain ⟨r, a, b⟩ := h
  exact ⟨r, Ev.step hg a, Ev.step hf b⟩
theorem Same.left {α : Type} {g f g' : Nat → Option α} (hg : ∀ k, g (k + 1) = g' k) (h : Same g' f) : Same g f := by
  obtain ⟨r, a, b⟩ := h
  exact ⟨r, Ev.step hg a, b⟩
theorem Same.right {α : Type} {g f f' : Nat → Option α} (hf : ∀ k, f (k + 1) = f' k) (h : Same g f') : Same g f := by
  obtain ⟨r, a, b⟩ := h
  exact ⟨r, a, Ev.step hf b⟩
theorem Same.now {α : Type} (r : α) : Same (fun _ => some r) (fun _ => some r) := ⟨r, Ev.now r, Ev.now r⟩
theorem if_dec {α : Type} {p : Prop} [Decidable p] (a b : α) : (if decide p = true then a else b) = if p then a else b := by
  by_cases h : p <;> simp [h]
theorem w00 : wrap64 0 = 0 := wr (by omega) (by omega)
theorem l00In_f (a b c : Int) : spec_l00In.f a b c = some (decide (b ≤ a ∧ a ≤ c)) := by
  unfold spec_l00In.f
  by_cases h : b ≤ a <;> simp [h]
theorem within_f (a b c : Int) : impl_within.f a b c = some (decide (b ≤ a ∧ a ≤ c)) := by
  unfold impl_within.f
  by_cases h : b ≤ a <;> simp [h]
theorem rd_lt {l : List Int} {i : Nat} (h : i < l.length) : rd l (i : Int) = l[i] := by
  unfold rd; simp [List.getD, h]
theorem eqInt64S_loop (a b : List Int) (hab : a.length = b.length) (hn : (a.length : Int) ≤ 4611686018427387904) (d : Nat) : ∀ (i : Nat), i ≤ a.length → a.length - i = d →
    Ev (fun k => laws_eqInt64S.l0 k a b (i : Int)) (decide (a.drop i = b.drop i)) := by
  induction d with
  | zero =>
    intro i hi hd
    refine Ev.step (f := fun _ => some (decide (a.drop i = b.drop i))) (fun k => ?_) (Ev.now _)
    simp only [laws_eqInt64S.l0]
    rw [if_neg (by omega), List.drop_eq_nil_of_le (by omega), List.drop_eq_nil_of_le (by omega)]; simp
  | succ d ih =>
    intro i hi hd
    have ha : i < a.length := by omega
    have hb : i < b.length := by omega
    by_cases e : a[i] = b[i]
    · refine Ev.step (fun k => ?_) (ev_id (ih (i + 1) (by omega) (by omega)) ?_)
      · simp only [laws_eqInt64S.l0]
        rw [if_pos (by omega), if_pos (by omega), if_pos (by omega), rd_lt ha, rd_lt hb, if_pos e, wr (by omega) (by omega)]; rfl
      · simp only [List.drop_eq_getElem_cons ha, List.drop_eq_getElem_cons hb, List.cons.injEq, e, true_and]
    · refine Ev.step (f := fun _ => some false) (fun k => ?_) (ev_id (Ev.now _) ?_)
      · simp only [laws_eqInt64S.l0]
        rw [if_pos (by omega), if_pos (by omega), if_pos (by omega), rd_lt ha, rd_lt hb, if_neg e]
      · simp only [List.drop_eq_getElem_cons ha, List.drop_eq_getElem_cons hb, List.cons.injEq, e, false_and, decide_false]
theorem eqInt64S_ev (a b : List Int) (hn : (a.length : Int) ≤ 4611686018427387904) : Ev (fun k => laws_eqInt64S.f k a b) (decide (a = b)) := by
  unfold laws_eqInt64S.f
  by_cases h : a.length = b.length
  · simp only [h, if_true]
    simpa using eqInt64S_loop a b h hn a.length 0 (by omega) (by omega)
  · have h' : ¬ (a.length : Int) = b.length := by omega
    simp only [if_neg h']
    have : a ≠ b := fun e => h (by rw [e])
    simpa [this] using Ev.now false
theorem eqInt64S_self (a : List Int) (hn : (a.length : Int) ≤ 4611686018427387904) : Ev (fun k => laws_eqInt64S.f k a a) true := by
  simpa using eqInt64S_ev a a hn
theorem markInt64S_loop (d : Nat) : ∀ (a p : List Int) (m : Int) (i : Nat), i + d = a.length → (a.length : Int) ≤ 4611686018427387904 → m = 1 + i → (∀ j (h : j < a.length), j < i → a[j] = 1 + (j : Int)) →
    ∃ r : List Int, Ev (fun k => laws_markInt64S.l0 k a m (i : Int)) (1 + (a.length : Int), r) ∧ r.length = a.length ∧ ∀ j (h : j < r.length), r[j] = 1 + (j : Int) := by
  induction d with
  | zero =>
    intro a p m i hi hn hm ha
    refine ⟨a, Ev.step (f := fun _ => some (1 + (a.length : Int), a)) (fun k => ?_) (Ev.now _), rfl, fun j h => ha j h (by omega)⟩
    simp only [laws_markInt64S.l0]
    rw [if_neg (by omega), show m = 1 + (a.length : Int) by omega]
  | succ d ih =>
    intro a p m i hi hn hm ha
    obtain ⟨r, h1, h2, h3⟩ := ih (a.set i m) p (m + 1) (i + 1) (by simp; omega) (by simpa using hn) (by omega) (by
      intro j h hj
      simp only [List.getElem_set]
      split
      · omega
      · exact ha j (by simpa using h) (by omega))
    simp only [List.length_set] at h1 h2
    refine ⟨r, Ev.step (fun k => ?_) h1, h2, h3⟩
    simp only [laws_markInt64S.l0]
    rw [if_pos (by omega), if_pos (by omega), wr (n := m + 1) (by omega) (by omega), wr (n := (i : Int) + 1) (by omega) (by omega)]; rfl
theorem heldInt64S_loop (a : List Int) (hn : (a.length : Int) ≤ 4611686018427387904) (ha : ∀ j (h : j < a.length), a[j] = 1 + (j : Int)) (d : Nat) : ∀ (i : Nat), i + d = a.length →
    Ev (fun k => laws_heldInt64S.l0 k a (1 + (i : Int)) (i : Int)) (1 + (a.length : Int)) := by
  induction d with
  | zero =>
    intro i hi
    refine Ev.step (f := fun _ => some (1 + (a.length : Int))) (fun k => ?_) (Ev.now _)
    simp only [laws_heldInt64S.l0]
    rw [if_neg (by omega), show i = a.length by omega]
  | succ d ih =>
    intro i hi
    refine Ev.step (fun k => ?_) (ih (i + 1) (by omega))
    simp only [laws_heldInt64S.l0]
    rw [if_pos (by omega), if_pos (by omega), rd_lt (by omega), if_pos (ha i (by omega)), wr (n := 1 + (i : Int) + 1) (by omega) (by omega), wr (n := (i : Int) + 1) (by omega) (by omega), show 1 + (i : Int) + 1 = 1 + ((i + 1 : Nat) : Int) by omega]; rfl
/-- What has been marked is held. -/
theorem markInt64S_ev (a : List Int) (hn : (a.length : Int) ≤ 4611686018427387904) :
    ∃ r : List Int, Ev (fun k => laws_markInt64S.f k a 1) (1 + (a.length : Int), r) ∧ Ev (fun k => laws_heldInt64S.f k r 1) (1 + (a.length : Int)) := by
  obtain ⟨r, h1, h2, h3⟩ := markInt64S_loop a.length a a 1 0 (by omega) hn (by omega) (fun j h hj => by omega)
  refine ⟨r, h1, ?_⟩
  have := heldInt64S_loop r (by omega) h3 r.length 0 (by omega)
  rw [h2] at this
  exact this
abbrev LY := S116
abbrev IY := S88
def toY (x : LY) : IY := ⟨x.f0, x.f1, x.f2⟩
theorem rdIY {l : List IY} {i : Nat} (h : i < l.length) : rd_T88 l (i : Int) = l[i] := by
  unfold rd_T88; simp [List.getD, h]
theorem rdLY {l : List LY} {i : Nat} (h : i < l.length) : rd_T116 l (i : Int) = l[i] := by
  unfold rd_T116; simp [List.getD, h]
theorem szYarn_f (l : List LY) (n : Int) (h0 : (l.length : Int) ≤ 140737488351232) (hn : 0 ≤ n ∧ n ≤ 1048576) : laws_szYarnS.f l n = some (if (l.length : Int) ≤ n then n - l.length else -1) := by
  unfold laws_szYarnS.f
  rw [wr (by omega) (by omega)]
  by_cases h : (l.length : Int) ≤ n
  · rw [if_neg (by omega), if_pos h]
  · rw [if_pos (by omega), if_neg h]
theorem toYarnS_loop (l : List LY) (hl : (l.length : Int) ≤ 140737488351232) (d : Nat) : ∀ (out rest : List IY) (i : Nat), out.length = i → rest.length = d → i + d = l.length →
    Ev (fun k => laws_toYarnS.l0 k l (out ++ rest) (i : Int)) (out ++ (l.drop i).map toY) := by
  induction d with
  | zero =>
    intro out rest i ho hr hi
    refine Ev.step (f := fun _ => some (out ++ (l.drop i).map toY)) (fun k => ?_) (Ev.now _)
    simp only [laws_toYarnS.l0]
    rw [if_neg (by omega), List.drop_eq_nil_of_le (by omega), List.length_eq_zero_iff.1 hr]; simp
  | succ d ih =>
    intro out rest i ho hr hi
    have hil : i < l.length := by omega
    obtain ⟨y, rest, rfl⟩ : ∃ y r, rest = y :: r := by cases rest with | nil => simp at hr | cons y r => exact ⟨y, r, rfl⟩
    refine Ev.step (fun k => ?_) (ev_id (ih (out ++ [toY l[i]]) rest (i + 1) (by simp; omega) (by simpa using hr) (by omega)) ?_)
    · simp only [laws_toYarnS.l0, laws_toYarn.f, Option.bind_some]
      rw [if_pos (by omega), if_pos (by omega), if_pos (by simp; omega), rdLY hil, wr (n := (i : Int) + 1) (by omega) (by omega)]
      have : (out ++ y :: rest).set (i : Int).toNat (⟨l[i].f0, l[i].f1, l[i].f2⟩ : IY) = out ++ [toY l[i]] ++ rest := by
        rw [Int.toNat_natCast, List.set_append_right _ _ (by omega), ho]; simp [toY]
      rw [this]; rfl
    · rw [List.drop_eq_getElem_cons hil]; simp only [List.map_cons, List.append_assoc, List.cons_append, List.nil_append]
theorem toYarnS_ev (l : List LY) (hl : (l.length : Int) ≤ 140737488351232) (hl2 : l.length ≤ 46912496118442) : Ev (fun k => laws_toYarnS.f k l) (l.map toY) := by
  unfold laws_toYarnS.f
  have h0 : (0 : Int) ≤ (l.length : Int) := by omega
  have h1 : ((l.length : Int) : Int).toNat ≤ 46912496118442 := by omega
  simp only [if_pos h0, if_pos h1]
  have := toYarnS_loop l hl l.length [] (List.replicate l.length z88) 0 rfl (by simp) (by omega)
  simpa using this
theorem eqYarnS_loop (l : List IY) (hl : (l.length : Int) ≤ 140737488351232) (d : Nat) : ∀ (i : Nat), i + d = l.length → Ev (fun k => laws_eqYarnS.l0 k l l (i : Int)) true := by
  induction d with
  | zero =>
    intro i hi
    refine Ev.step (f := fun _ => some true) (fun k => ?_) (Ev.now _)
    simp only [laws_eqYarnS.l0]; rw [if_neg (by omega)]
  | succ d ih =>
    intro i hi
    refine Ev.step (fun k => ?_) (ih (i + 1) (by omega))
    simp only [laws_eqYarnS.l0, laws_eqYarn.f, if_true, Option.bind_some]
    rw [if_pos (by omega), if_pos (by omega), if_pos (by omega), wr (n := (i : Int) + 1) (by omega) (by omega)]; rfl
theorem eqYarnS_self (l : List IY) (hl : (l.length : Int) ≤ 140737488351232) : Ev (fun k => laws_eqYarnS.f k l l) true := by
  unfold laws_eqYarnS.f
  simp only [if_true]
  exact eqYarnS_loop l hl l.length 0 (by omega)
/-- What a valid yarn is. -/
def vY (x : IY) : Bool := decide ((1 ≤ wrap64 x.f0 ∧ wrap64 x.f0 ≤ 5000) ∧ (-2000 ≤ wrap64 x.f1 ∧ wrap64 x.f1 ≤ 2000) ∧ (1 ≤ wrap64 x.f2 ∧ wrap64 x.f2 ≤ 2000))
theorem vY_spec (x : IY) : spec_l03Yarn.f x.f0 x.f1 x.f2 = some (vY x) := by
  unfold spec_l03Yarn.f vY
  simp only [l00In_f, Option.bind_some, if_dec]
  by_cases h1 : 1 ≤ wrap64 x.f0 ∧ wrap64 x.f0 ≤ 5000 <;> by_cases h2 : -2000 ≤ wrap64 x.f1 ∧ wrap64 x.f1 ≤ 2000 <;> simp [h1, h2]
theorem vY_impl (x : IY) : impl_ValidYarn.f x.f0 x.f1 x.f2 = some (vY x) := by
  unfold impl_ValidYarn.f vY
  simp only [within_f, Option.bind_some, if_dec]
  by_cases h1 : 1 ≤ wrap64 x.f0 ∧ wrap64 x.f0 ≤ 5000 <;> by_cases h2 : -2000 ≤ wrap64 x.f1 ∧ wrap64 x.f1 ≤ 2000 <;> simp [h1, h2]
theorem vYarn_eq : vYarn = vY := by
  funext x
  have h := vYarn_f x
  rw [vY_impl] at h
  exact (Option.some.inj h).symm
/-- The code of yarns. -/
def yCode (l : List IY) (b : Bool) : Int := if l.all vY = true then (if b = true then (if (l.length : Int) > 10 then 3 else 0) else 2) else 1
theorem impl_yCode (l : List IY) (b : Bool) (hl : (l.length : Int) ≤ 140737488351232) : impl_yarnsCode.f l b = some (yCode l b) := by
  unfold impl_yarnsCode.f yCode
  rw [if_pos (by omega), vYarn_eq]
theorem spec_yCode_loop (l : List IY) (b : Bool) (hl : (l.length : Int) ≤ 140737488351232) (d : Nat) : ∀ (i : Nat), i + d = l.length → (∀ x ∈ l.take i, vY x = true) →
    Ev (fun k => spec_l03Asked.l0 k l b (i : Int)) (yCode l b) := by
  induction d with
  | zero =>
    intro i hi ha
    refine Ev.step (f := fun _ => some (yCode l b)) (fun k => ?_) (Ev.now _)
    simp only [spec_l03Asked.l0]
    have : l.all vY = true := by
      rw [List.all_eq_true]; intro x hx; exact ha x (by rw [List.take_of_length_le (by omega)]; exact hx)
    rw [if_neg (by omega)]
    unfold yCode
    rw [if_pos this]
    cases b <;> simp <;> split <;> rfl
  | succ d ih =>
    intro i hi ha
    have hil : i < l.length := by omega
    cases hv : vY l[i] with
    | true =>
      refine Ev.step (fun k => ?_) (ih (i + 1) (by omega) ?_)
      · simp only [spec_l03Asked.l0, rdIY hil, vY_spec, Option.bind_some, hv, if_true]
        rw [if_pos (by omega), if_pos (by omega), wr (n := (i : Int) + 1) (by omega) (by omega)]; rfl
      · intro x hx
        rw [List.take_succ_eq_append_getElem hil] at hx
        rcases List.mem_append.1 hx with h | h
        · exact ha x h
        · simp at h; rw [h]; exact hv
    | false =>
      refine Ev.step (f := fun _ => some (yCode l b)) (fun k => ?_) (Ev.now _)
      simp only [spec_l03Asked.l0, rdIY hil, vY_spec, Option.bind_some, hv]
      rw [if_pos (by omega), if_pos (by omega)]
      have : ¬ l.all vY = true := by
        intro h
        have := List.all_eq_true.1 h l[i] (List.getElem_mem _)
        rw [hv] at this; cases this
      unfold yCode
      rw [if_neg this]; simp
theorem spec_yCode (l : List IY) (b : Bool) (hl : (l.length : Int) ≤ 140737488351232) : Ev (fun k => spec_l03Asked.f k l b) (yCode l b) := by
  unfold spec_l03Asked.f
  exact spec_yCode_loop l b hl l.length 0 (by omega) (by simp)
theorem yCode_zero {l : List IY} {b : Bool} (h : yCode l b = 0) : (∀ x ∈ l, vY x = true) ∧ b = true ∧ l.length ≤ 10 := by
  unfold yCode at h
  by_cases h1 : l.all vY = true
  · rw [if_pos h1] at h
    by_cases h2 : b = true
    · rw [if_pos h2] at h
      by_cases h3 : (l.length : Int) > 10
      · rw [if_pos h3] at h; omega
      · exact ⟨List.all_eq_true.1 h1, h2, by omega⟩
    · rw [if_neg h2] at h; omega
  · rw [if_neg h1] at h; omega
theorem wadd (a b : Int) : wrap64 (wrap64 a + b) = wrap64 (a + b) := by unfold wrap64; omega
theorem wsum (a b : Int) : wrap64 (a + wrap64 b) = wrap64 (a + b) := by unfold wrap64; omega
theorem markYarnS_loop (d : Nat) : ∀ (a : List IY) (m : Int) (i : Nat), i + d = a.length → (a.length : Int) ≤ 1073741824 → 0 ≤ m → m + 3 * d ≤ 4611686018427387904 →
    ∃ r : List IY, Ev (fun k => laws_markYarnS.l0 k a m (i : Int)) (m + 3 * d, r) := by
  induction d with
  | zero =>
    intro a m i hi hn h0 h1
    refine ⟨a, Ev.step (f := fun _ => some (m, a)) (fun k => ?_) (ev_id (Ev.now _) (by simp))⟩
    simp only [laws_markYarnS.l0]
    rw [if_neg (by omega)]
  | succ d ih =>
    intro a m i hi hn h0 h1
    have w1 : wrap64 (m + 1) = m + 1 := wr (by omega) (by omega)
    have w2 : wrap64 (m + 1 + 1) = m + 2 := by rw [wr (by omega) (by omega)]; omega
    have w4 : wrap64 (m + 2 + 1) = m + 3 := by rw [wr (by omega) (by omega)]; omega
    have w3 : wrap64 ((i : Int) + 1) = ((i + 1 : Nat) : Int) := by rw [wr (by omega) (by omega)]; omega
    have step : ∀ b1 b2 b3 : List IY, b1 = a.set i (⟨IntKind.i16.wrap m, (rd_T88 a i).f1, (rd_T88 a i).f2⟩ : IY) → b2 = b1.set i (⟨(rd_T88 b1 i).f0, IntKind.i16.wrap (m + 1), (rd_T88 b1 i).f2⟩ : IY) → b3 = b2.set i (⟨(rd_T88 b2 i).f0, (rd_T88 b2 i).f1, IntKind.i16.wrap (m + 2)⟩ : IY) →
        b3.length = a.length ∧ ∀ k, laws_markYarnS.l0 (k + 1) a m (i : Int) = laws_markYarnS.l0 k b3 (m + 3) ((i + 1 : Nat) : Int) := by
      intro b1 b2 b3 e1 e2 e3
      refine ⟨by rw [e3, e2, e1]; simp, fun k => ?_⟩
      simp only [laws_markYarnS.l0, Option.bind_some, w1, w2, w3, w4, Int.toNat_natCast]
      rw [if_pos (by omega), if_pos (by omega), ← e1, ← e2, ← e3]
    obtain ⟨hb, eb⟩ := step _ _ _ rfl rfl rfl
    generalize List.set _ i _ = b at hb eb
    obtain ⟨r, h⟩ := ih b (m + 3) (i + 1) (by omega) (by omega) (by omega) (by omega)
    exact ⟨r, Ev.step eb (ev_id h (by rw [Prod.mk.injEq]; exact ⟨by omega, rfl⟩))⟩
theorem markYarnS_ev (a : List IY) (hn : (a.length : Int) ≤ 1073741824) : ∃ r : List IY, Ev (fun k => laws_markYarnS.f k a 1) (1 + 3 * (a.length : Int), r) := by
  obtain ⟨r, h⟩ := markYarnS_loop a.length a 1 0 (by omega) hn (by omega) (by omega)
  exact ⟨r, h⟩
theorem rd_setN (l : List Int) (x : Int) (i j : Nat) (h : i < l.length) : rd (l.set i x) (j : Int) = if j = i then x else rd l (j : Int) := by
  unfold rd
  rw [Int.toNat_natCast, List.getD_eq_getElem?_getD, List.getElem?_set, List.getD_eq_getElem?_getD]
  by_cases e : i = j
  · subst e; simp [h]
  · rw [if_neg e, if_neg (fun z => e z.symm)]
theorem max_go (t : List Int) : ∀ m : Int, m ≤ slices_Max_int64_int64.go m t ∧ (∀ y ∈ t, y ≤ slices_Max_int64_int64.go m t) ∧ (slices_Max_int64_int64.go m t = m ∨ slices_Max_int64_int64.go m t ∈ t) := by
  induction t with
  | nil => intro m; simp [slices_Max_int64_int64.go]
  | cons x t ih =>
    intro m
    obtain ⟨h1, h2, h3⟩ := ih (mx m x)
    have hx : m ≤ mx m x ∧ x ≤ mx m x ∧ (mx m x = m ∨ mx m x = x) := by unfold mx; split <;> omega
    simp only [slices_Max_int64_int64.go, List.mem_cons]
    refine ⟨by omega, ?_, ?_⟩
    · rintro y (rfl | hy)
      · omega
      · exact h2 y hy
    · rcases h3 with h3 | h3
      · rcases hx.2.2 with e | e
        · left; omega
        · right; left; omega
      · right; right; exact h3
theorem max_spec {L : List Int} {r : Int} (h : slices_Max_int64_int64.f L = some r) : r ∈ L ∧ ∀ y ∈ L, y ≤ r := by
  cases L with
  | nil => simp [slices_Max_int64_int64.f] at h
  | cons x t =>
    simp only [slices_Max_int64_int64.f, Option.some.injEq] at h
    subst h
    obtain ⟨h1, h2, h3⟩ := max_go t x
    refine ⟨?_, ?_⟩
    · rcases h3 with e | e
      · rw [e]; exact List.mem_cons_self ..
      · exact List.mem_cons_of_mem _ e
    · intro y hy
      rcases List.mem_cons.1 hy with rfl | hy
      · exact h1
      · exact h2 y hy
theorem max_of {L : List Int} {r : Int} (hr : r ∈ L) (hb : ∀ y ∈ L, y ≤ r) : slices_Max_int64_int64.f L = some r := by
  cases L with
  | nil => simp at hr
  | cons x t =>
    obtain ⟨q, hq⟩ : ∃ q, slices_Max_int64_int64.f (x :: t) = some q := ⟨_, rfl⟩
    obtain ⟨a, b⟩ := max_spec hq
    have := hb q a
    have := b r hr
    rw [hq]; congr 1; omega
theorem max_set {L : List Int} {mo v : Int} (h : slices_Max_int64_int64.f L = some mo) (x : Nat) (hx : x < L.length) (hv : rd L (x : Int) ≤ v) : slices_Max_int64_int64.f (L.set x v) = some (if mo > v then mo else v) := by
  obtain ⟨h1, h2⟩ := max_spec h
  refine max_of ?_ ?_
  · split
    · rename_i hgt
      obtain ⟨j, hj, e⟩ := List.mem_iff_getElem.1 h1
      refine List.mem_iff_getElem.2 ⟨j, by simpa using hj, ?_⟩
      rw [List.getElem_set]
      rw [if_neg ?_]
      · exact e
      · intro e2
        subst e2
        rw [rd_lt hx] at hv
        omega
    · exact List.mem_iff_getElem.2 ⟨x, by simpa using hx, by simp⟩
  · intro y hy
    rcases List.mem_or_eq_of_mem_set hy with hy | hy
    · have := h2 y hy
      split <;> omega
    · subst hy; split <;> omega
/-- Where both searches stand. -/
structure EI (l : List IY) (p : Nat) (N S O L : List Int) (u : Nat) (mo : Int) : Prop where
  hS : S.length = 6
  hL : L.length = p
  hO : O.length = l.length
  hN : O.take N.length = N
  hu : u ≤ p
  hz : ∀ j : Nat, j < p → rd S (j : Int) = rd L (j : Int) ∧ 0 ≤ rd L (j : Int) ∧ rd L (j : Int) ≤ 5000 * N.length ∧ (rd L (j : Int) = 0 ↔ u ≤ j)
  hm : slices_Max_int64_int64.f L = some mo
def ES (l : List IY) (B : List Int) (m mi : Int) (fd : Bool) : Prop := (fd = true → mi = m ∧ 0 ≤ m ∧ B.length = l.length) ∧ (fd = false → mi = -1)
theorem EI.next {l : List IY} {p : Nat} {N S O L : List Int} {u : Nat} {mo : Int} (h : EI l p N S O L u mo) (hp : 1 ≤ p ∧ p ≤ 6) (hl : l.length ≤ 10) (x : Nat) (hx : x < p) (hxu : x ≤ u) (hn : N.length < l.length) (f : Int) (hf : 1 ≤ f ∧ f ≤ 5000) :
    EI l p (N ++ [(x : Int)]) (S.set x (rd S (x : Int) + f)) (O.set N.length (x : Int)) (L.set x (rd L (x : Int) + f)) (if u < x + 1 then x + 1 else u) (if mo > rd S (x : Int) + f then mo else rd S (x : Int) + f) := by
  have hxL : x < L.length := by rw [h.hL]; exact hx
  have hxS : x < S.length := by rw [h.hS]; omega
  obtain ⟨z1, z2, z3, z4⟩ := h.hz x hx
  refine ⟨by simp [h.hS], by simp [h.hL], by simp [h.hO], ?_, ?_, ?_, ?_⟩
  · rw [List.length_append, List.length_singleton, List.take_succ_eq_append_getElem (by simp [h.hO]; exact hn), List.take_set_of_le (Nat.le_refl _), h.hN]
    simp
  · have := h.hu; split <;> omega
  · intro j hj
    obtain ⟨y1, y2, y3, y4⟩ := h.hz j hj
    rw [rd_setN _ _ _ _ hxS, rd_setN _ _ _ _ hxL, List.length_append, List.length_singleton]
    by_cases e : j = x
    · subst e
      simp only [if_true]
      refine ⟨by omega, by omega, by omega, ⟨fun z => by omega, fun z => ?_⟩⟩
      exfalso; split at z <;> omega
    · simp only [if_neg e]
      refine ⟨y1, y2, by omega, ?_⟩
      rw [y4]; split <;> omega
  · rw [z1]; exact max_set h.hm x hxL (by omega)
theorem mxN (u x : Nat) : mx (u : Int) ((x + 1 : Nat) : Int) = ((if u < x + 1 then x + 1 else u : Nat) : Int) := by
  unfold mx
  by_cases h : u < x + 1
  · rw [if_pos (by omega), if_pos h]
  · rw [if_neg (by omega), if_neg h]
theorem l00MaxF (a b : Int) : spec_l00Max.f a b = some (if a > b then a else b) := by
  unfold spec_l00Max.f
  by_cases h : a > b
  · rw [if_pos h, if_pos h]
  · rw [if_neg h, if_neg h]
theorem bdq (u p : Nat) (h : u ≤ p) (hp : p ≤ 6) : mn (wrap64 ((u : Int) + 1)) (p : Int) = (if p < u + 1 then (p : Int) else ((u + 1 : Nat) : Int)) := by
  rw [wr (n := (u : Int) + 1) (by omega) (by omega)]
  unfold mn
  by_cases c : p < u + 1
  · rw [if_pos c, if_pos (by omega)]
  · rw [if_neg c, if_neg (by omega)]; omega
theorem bdx {p u x : Nat} (h : x < p) (h2 : x ≤ u) : (x : Int) < (if p < u + 1 then (p : Int) else ((u + 1 : Nat) : Int)) := by
  by_cases c : p < u + 1
  · rw [if_pos c]; omega
  · rw [if_neg c]; omega
theorem bdn {p u x : Nat} (h : x = p ∨ u < x) : ¬ (x : Int) < (if p < u + 1 then (p : Int) else ((u + 1 : Nat) : Int)) := by
  by_cases c : p < u + 1
  · rw [if_pos c]; omega
  · rw [if_neg c]; omega
theorem put_l0 (l : List IY) (p : Int) (k : Nat) (i u bd x : Int) (O L B : List Int) (m : Int) (h1 : x < bd) (h2 : 0 ≤ i ∧ i < (l.length : Int) ∧ i < (O.length : Int) ∧ 0 ≤ x ∧ x < (L.length : Int)) :
    impl_EvenPlies_1.l0 l p (k + 1) i u bd x O L B m = (impl_EvenPlies_1.f l p k (wrap64 (i + 1)) (mx u (wrap64 (x + 1))) (O.set i.toNat x) (L.set x.toNat (wrap64 (rd L x + wrap64 (rd_T88 l i).f0))) B m).bind fun r => if x < (r.2.1.length : Int) then impl_EvenPlies_1.l0 l p k i u bd (wrap64 (x + 1)) r.1 (r.2.1.set x.toNat (wrap64 (rd r.2.1 x - wrap64 (rd_T88 l i).f0))) r.2.2.1 r.2.2.2 else none := by
  rw [impl_EvenPlies_1.l0, if_pos h1, if_pos h2]
theorem from_l0 (l : List IY) (p : Int) (k : Nat) (N S : List Int) (mo x : Int) (B : List Int) (m : Int) (fd : Bool) (h1 : x < p) (h2 : 0 ≤ x ∧ x < 6 ∧ N.length < l.length ∧ N.length ≤ 1048576) :
    spec_l03Even_from.l0 l p (k + 1) N S mo x B m fd = (spec_l00Max.f mo (wrap64 (rd S x + wrap64 (rd_T88 l (N.length : Int)).f0))).bind fun mo2 => (spec_l03Even_from.f l p k (N ++ [x]) (S.set x.toNat (wrap64 (rd S x + wrap64 (rd_T88 l (N.length : Int)).f0))) mo2 B m fd).bind fun r => if rd S x = 0 then some r else spec_l03Even_from.l0 l p k N S mo (wrap64 (x + 1)) r.1 r.2.1 r.2.2 := by
  rw [spec_l03Even_from.l0, if_pos h1, if_pos h2]
set_option maxHeartbeats 4000000 in
theorem even_go (l : List IY) (p : Nat) (hp : 1 ≤ p ∧ p ≤ 6) (hl : l.length ≤ 10) (hv : ∀ x ∈ l, 1 ≤ x.f0 ∧ x.f0 ≤ 5000) : ∀ (d : Nat) (N S O L : List Int) (u : Nat) (mo : Int) (B : List Int) (m mi : Int) (fd : Bool), N.length + d = l.length → EI l p N S O L u mo → ES l B m mi fd →
    ∃ B' m' O', Ev (fun k => spec_l03Even_from.f l (p : Int) k N S mo B m fd) (B', m', true) ∧ Ev (fun k => impl_EvenPlies_1.f l (p : Int) k (N.length : Int) (u : Int) O L B mi) (O', L, B', m') ∧ O'.length = l.length ∧ O'.take N.length = N ∧ 0 ≤ m' ∧ B'.length = l.length := by
  intro d
  induction d with
  | zero =>
    intro N S O L u mo B m mi fd hd hI hS
    by_cases hg : fd = true ∧ mo ≥ m
    · obtain ⟨rfl, hg2⟩ := hg
      obtain ⟨rfl, q1, q2⟩ := hS.1 rfl
      refine ⟨B, mi, O, Ev.step (f := fun _ => some (B, mi, true)) (fun k => by rw [spec_l03Even_from.f, if_pos ⟨rfl, hg2⟩]) (Ev.now _), Ev.step (f := fun _ => some (O, L, B, mi)) (fun k => by simp only [impl_EvenPlies_1.f, hI.hm, Option.bind_some]; rw [if_pos ⟨q1, hg2⟩]) (Ev.now _), hI.hO, hI.hN, q1, q2⟩
    · have hg' : ¬ (mi ≥ 0 ∧ mo ≥ mi) := by
        rintro ⟨a, b⟩
        cases fd with
        | true => obtain ⟨rfl, _, _⟩ := hS.1 rfl; exact hg ⟨rfl, b⟩
        | false => have := hS.2 rfl; omega
      have hN : O = N := by rw [← hI.hN, show N.length = O.length by rw [hI.hO]; omega, List.take_length]
      have h0 : 0 ≤ mo := by
        obtain ⟨j, hj, e⟩ := List.mem_iff_getElem.1 (max_spec hI.hm).1
        have := (hI.hz j (by rw [← hI.hL]; exact hj)).2.1
        rw [rd_lt hj] at this
        omega
      refine ⟨N, mo, O, Ev.step (f := fun _ => some (N, mo, true)) (fun k => ?_) (Ev.now _), Ev.step (f := fun _ => some (O, L, N, mo)) (fun k => ?_) (Ev.now _), hI.hO, hI.hN, h0, by omega⟩
      · simp only [spec_l03Even_from.f]; rw [if_neg hg, if_pos (by omega), if_pos (by omega)]
      · have hd2 : (N.length : Int) = (l.length : Int) := by omega
        simp only [impl_EvenPlies_1.f, hI.hm, Option.bind_some]; rw [if_neg hg', if_pos hd2]
        simp only [slices_Clone_int64_int64.f]
        rw [if_pos (by have := hI.hO; omega), Option.bind_some, hN]
  | succ d ihd =>
    have loop : ∀ (N S L : List Int) (u : Nat) (mo : Int), N.length + (d + 1) = l.length → ∀ (e x : Nat) (O B : List Int) (m mi : Int) (fd : Bool), x + e = p → x ≤ u → (0 < x → fd = true) → EI l p N S O L u mo → ES l B m mi fd →
        ∃ B' m' O', Ev (fun k => spec_l03Even_from.l0 l (p : Int) k N S mo (x : Int) B m fd) (B', m', true) ∧ Ev (fun k => impl_EvenPlies_1.l0 l (p : Int) k (N.length : Int) (u : Int) (if p < u + 1 then (p : Int) else ((u + 1 : Nat) : Int)) (x : Int) O L B mi) (O', L, B', m') ∧ O'.length = l.length ∧ O'.take N.length = N ∧ 0 ≤ m' ∧ B'.length = l.length := by
      intro N S L u mo hd e
      induction e with
      | zero =>
        intro x O B m mi fd hx hxu hf hI hS
        have hfd := hf (by omega)
        subst hfd
        obtain ⟨rfl, q1, q2⟩ := hS.1 rfl
        refine ⟨B, mi, O, Ev.step (f := fun _ => some (B, mi, true)) (fun k => ?_) (Ev.now _), Ev.step (f := fun _ => some (O, L, B, mi)) (fun k => ?_) (Ev.now _), hI.hO, hI.hN, q1, q2⟩
        · simp only [spec_l03Even_from.l0]; rw [if_neg (by omega)]
        · simp only [impl_EvenPlies_1.l0]; rw [if_neg (bdn (by omega))]
      | succ e ihe =>
        intro x O B m mi fd hx hxu hf hI hS
        have hxp : x < p := by omega
        have hn : N.length < l.length := by omega
        have hxS : x < S.length := by rw [hI.hS]; omega
        have hxL : x < L.length := by rw [hI.hL]; exact hxp
        obtain ⟨z1, z2, z3, z4⟩ := hI.hz x hxp
        have hw := hv l[N.length] (List.getElem_mem hn)
        have hlen : (N.length : Int) ≤ 10 := by omega
        obtain ⟨B1, m1, O1, s1, i1, o1, o2, o3, o4⟩ := ihd _ _ _ _ _ _ B m mi fd (by simp; omega) (hI.next hp hl x hxp hxu hn l[N.length].f0 hw) hS
        have wv : wrap64 (rd S (x : Int) + wrap64 (rd_T88 l (N.length : Int)).f0) = rd S (x : Int) + l[N.length].f0 := by
          rw [rdIY hn, wr (n := l[N.length].f0) (by omega) (by omega), wr (by omega) (by omega)]
        have wvL : wrap64 (rd L (x : Int) + wrap64 (rd_T88 l (N.length : Int)).f0) = rd L (x : Int) + l[N.length].f0 := by
          rw [rdIY hn, wr (n := l[N.length].f0) (by omega) (by omega), wr (by omega) (by omega)]
        have wx : wrap64 ((x : Int) + 1) = ((x + 1 : Nat) : Int) := by rw [wr (by omega) (by omega)]; omega
        have wn : wrap64 ((N.length : Int) + 1) = ((N ++ [(x : Int)]).length : Int) := by rw [wr (by omega) (by omega)]; simp
        have hO1 : O1.take N.length = N := by
          have := congrArg (List.take N.length) o2
          rw [List.take_take, List.length_append, Nat.min_eq_left (by omega)] at this
          simpa using this
        have hrest : (L.set x (rd L (x : Int) + l[N.length].f0)).set x (wrap64 (rd (L.set x (rd L (x : Int) + l[N.length].f0)) (x : Int) - wrap64 (rd_T88 l (N.length : Int)).f0)) = L := by
          rw [rd_setN _ _ _ _ hxL, if_pos rfl, rdIY hn, wr (n := l[N.length].f0) (by omega) (by omega), wr (by omega) (by omega), List.set_set]
          have : rd L (x : Int) + l[N.length].f0 - l[N.length].f0 = L[x] := by rw [rd_lt hxL]; omega
          rw [this, List.set_getElem_self]
        have hI1 : EI l p N S O1 L u mo := ⟨hI.hS, hI.hL, o1, hO1, hI.hu, hI.hz, hI.hm⟩
        have hS1 : ES l B1 m1 m1 true := ⟨fun _ => ⟨rfl, o3, o4⟩, fun z => by cases z⟩
        have hg2 : 0 ≤ (N.length : Int) ∧ (N.length : Int) < (l.length : Int) ∧ (N.length : Int) < (O.length : Int) ∧ 0 ≤ (x : Int) ∧ (x : Int) < (L.length : Int) := ⟨Int.natCast_nonneg _, Int.ofNat_lt.2 hn, Int.ofNat_lt.2 (hI.hO ▸ hn), Int.natCast_nonneg _, Int.ofNat_lt.2 hxL⟩
        have istep : ∀ k, impl_EvenPlies_1.l0 l (p : Int) (k + 1) (N.length : Int) (u : Int) (if p < u + 1 then (p : Int) else ((u + 1 : Nat) : Int)) (x : Int) O L B mi = (impl_EvenPlies_1.f l (p : Int) k ((N ++ [(x : Int)]).length : Int) ((if u < x + 1 then x + 1 else u : Nat) : Int) (O.set N.length (x : Int)) (L.set x (rd L (x : Int) + l[N.length].f0)) B mi).bind fun r =>
            if (x : Int) < (r.2.1.length : Int) then impl_EvenPlies_1.l0 l (p : Int) k (N.length : Int) (u : Int) (if p < u + 1 then (p : Int) else ((u + 1 : Nat) : Int)) ((x + 1 : Nat) : Int) r.1 (r.2.1.set x (wrap64 (rd r.2.1 (x : Int) - wrap64 (rd_T88 l (N.length : Int)).f0))) r.2.2.1 r.2.2.2 else none := by
          intro k
          rw [put_l0 l (p : Int) k (N.length : Int) (u : Int) _ (x : Int) O L B mi (bdx hxp hxu) hg2, wvL, wx, wn, mxN u x, Int.toNat_natCast, Int.toNat_natCast]
        have sstep : ∀ k, spec_l03Even_from.l0 l (p : Int) (k + 1) N S mo (x : Int) B m fd = (spec_l03Even_from.f l (p : Int) k (N ++ [(x : Int)]) (S.set x (rd S (x : Int) + l[N.length].f0)) (if mo > rd S (x : Int) + l[N.length].f0 then mo else rd S (x : Int) + l[N.length].f0) B m fd).bind fun r =>
            if rd S (x : Int) = 0 then some r else spec_l03Even_from.l0 l (p : Int) k N S mo ((x + 1 : Nat) : Int) r.1 r.2.1 r.2.2 := by
          intro k
          rw [from_l0 l (p : Int) k N S mo (x : Int) B m fd (Int.ofNat_lt.2 hxp) ⟨Int.natCast_nonneg _, Int.ofNat_lt.2 (Nat.lt_of_lt_of_le hxp hp.2), hn, Nat.le_trans (Nat.le_of_lt hn) (Nat.le_trans hl (by decide))⟩, wv, l00MaxF, Option.bind_some, wx, Int.toNat_natCast]
        have hlx : (x : Int) < ((L.set x (rd L (x : Int) + l[N.length].f0)).length : Int) := by rw [List.length_set]; exact Int.ofNat_lt.2 hxL
        by_cases hzero : rd S (x : Int) = 0
        · have hux : u = x := by exact Nat.le_antisymm (z4.1 (z1.symm.trans hzero)) hxu
          refine ⟨B1, m1, O1, Ev.step sstep (Ev.bind s1 ?_), Ev.step istep (Ev.bind i1 ?_), o1, hO1, o3, o4⟩
          · simp only [if_pos hzero]; exact Ev.now _
          · simp only [if_pos hlx]
            rw [hrest]
            refine Ev.step (f := fun _ => some (O1, L, B1, m1)) (fun k => ?_) (Ev.now _)
            simp only [impl_EvenPlies_1.l0]; rw [if_neg (bdn (Or.inr (hux ▸ Nat.lt_succ_self x)))]
        · have hxu2 : x + 1 ≤ u := by
            rcases Nat.lt_or_ge x u with h | h
            · exact h
            · exact absurd (z1.trans (z4.2 h)) hzero
          obtain ⟨B2, m2, O2, s2, i2, p1, p2, p3, p4⟩ := ihe (x + 1) O1 B1 m1 m1 true ((Nat.succ_add_eq_add_succ x e).trans hx) hxu2 (fun _ => rfl) hI1 hS1
          refine ⟨B2, m2, O2, Ev.step sstep (Ev.bind s1 ?_), Ev.step istep (Ev.bind i1 ?_), p1, p2, p3, p4⟩
          · simp only [if_neg hzero]; exact s2
          · simp only [if_pos hlx]
            rw [hrest]; exact i2
    intro N S O L u mo B m mi fd hd hI hS
    by_cases hg : fd = true ∧ mo ≥ m
    · obtain ⟨rfl, hg2⟩ := hg
      obtain ⟨rfl, q1, q2⟩ := hS.1 rfl
      refine ⟨B, mi, O, Ev.step (f := fun _ => some (B, mi, true)) (fun k => by rw [spec_l03Even_from.f, if_pos ⟨rfl, hg2⟩]) (Ev.now _), Ev.step (f := fun _ => some (O, L, B, mi)) (fun k => by simp only [impl_EvenPlies_1.f, hI.hm, Option.bind_some]; rw [if_pos ⟨q1, hg2⟩]) (Ev.now _), hI.hO, hI.hN, q1, q2⟩
    · have hg' : ¬ (mi ≥ 0 ∧ mo ≥ mi) := by
        rintro ⟨a, b⟩
        cases fd with
        | true => obtain ⟨rfl, _, _⟩ := hS.1 rfl; exact hg ⟨rfl, b⟩
        | false => have := hS.2 rfl; omega
      obtain ⟨B', m', O', s, i, r⟩ := loop N S L u mo hd p 0 O B m mi fd (by omega) (by omega) (fun z => absurd z (by omega)) hI hS
      refine ⟨B', m', O', Ev.step (fun k => ?_) s, Ev.step (fun k => ?_) i, r⟩
      · simp only [spec_l03Even_from.f]; rw [if_neg hg, if_neg (by omega)]; rfl
      · simp only [impl_EvenPlies_1.f, hI.hm, Option.bind_some]; rw [if_neg hg', if_neg (by have := hd; omega), bdq u p hI.hu hp.2]; rfl
theorem wfp16 {a : Int} (h : (Lit.int .i16 a).wf = true) : -32768 ≤ a ∧ a ≤ 32767 := by
  simp only [Lit.wf, IntKind.min, IntKind.max, IntKind.signed, IntKind.bits, Bool.and_eq_true, decide_eq_true_eq, if_true] at h
  omega
theorem EvenPlies_same (l : List IY) (q : Int) (hl : (l.length : Int) ≤ 140737488351232) (hw : ∀ x ∈ l, -32768 ≤ x.f0 ∧ x.f0 ≤ 32767) :
    ∃ r : List Int × Int × Int, Ev (fun k => spec_EvenPlies.f k l q) r ∧ Ev (fun k => impl_EvenPlies.f k l q) r ∧ (r.1.length : Int) ≤ 10 := by
  unfold spec_EvenPlies.f impl_EvenPlies.f
  obtain ⟨fine, hfine⟩ : ∃ x, x = decide (1 ≤ q ∧ q ≤ 6) := ⟨_, rfl⟩
  simp only [l00In_f, within_f, Option.bind_some, ← hfine, impl_yCode l fine hl]
  by_cases hc : yCode l fine = 0
  · obtain ⟨hv, hf, hlen⟩ := yCode_zero hc
    rw [hfine, decide_eq_true_eq] at hf
    have ho : ∀ x ∈ l, 1 ≤ x.f0 ∧ x.f0 ≤ 5000 := by
      intro x hx
      have h1 := hw x hx
      have h2 := hv x hx
      unfold vY at h2
      have z := (of_decide_eq_true h2).1
      rw [wr (n := x.f0) (by omega) (by omega)] at z
      exact z
    by_cases hgt : q > (l.length : Int)
    · refine ⟨([], 0, 6), Ev.bind (spec_yCode l fine hl) ?_, ?_, by simp⟩
      · simp only [if_pos hc, if_pos hgt]; exact Ev.now _
      · simp only [if_pos hc, if_pos hgt]; exact Ev.now _
    · obtain ⟨p, rfl⟩ := Int.eq_ofNat_of_zero_le (show 0 ≤ q by omega)
      have hp : 1 ≤ p ∧ p ≤ 6 := by omega
      have hl10 : l.length ≤ 10 := by omega
      have hI : EI l p [] [0, 0, 0, 0, 0, 0] (List.replicate l.length 0) (List.replicate p 0) 0 0 := by
        have rz : ∀ j : Nat, rd (List.replicate p 0) (j : Int) = 0 := by
          intro j; unfold rd; simp [List.getD, List.getElem?_replicate]; split <;> rfl
        have rs : ∀ j : Nat, rd [0, 0, 0, 0, 0, 0] (j : Int) = 0 := by
          intro j; unfold rd
          rw [Int.toNat_natCast]
          match j with
          | 0 | 1 | 2 | 3 | 4 | 5 => rfl
          | n + 6 => rfl
        refine ⟨rfl, by simp, by simp, rfl, by omega, fun j hj => ?_, max_of ?_ ?_⟩
        · rw [rz, rs]; simp
        · exact List.mem_replicate.2 ⟨by omega, rfl⟩
        · intro y hy; have := (List.mem_replicate.1 hy).2; omega
      obtain ⟨B, m, O, s, i, _, _, h0, hB⟩ := even_go l p hp hl10 ho l.length [] _ _ _ 0 0 [] 0 (-1) false (by simp) hI ⟨(fun z => by cases z), fun _ => rfl⟩
      have g : 0 ≤ (p : Int) ∧ (p : Int) ≤ 1048576 ∧ l.length ≤ 1048576 := by omega
      refine ⟨(B, m, 0), Ev.bind (spec_yCode l fine hl) ?_, ?_, by simp only; omega⟩
      · simp only [if_pos hc, if_neg hgt]; exact Ev.bind s (Ev.now _)
      · simp only [if_pos hc, if_neg hgt, if_pos g]; exact Ev.bind i (Ev.now _)
  · refine ⟨([], 0, yCode l fine), Ev.bind (spec_yCode l fine hl) ?_, ?_, by simp⟩
    · simp only [if_neg hc]; exact Ev.now _
    · simp only [if_neg hc]; exact Ev.now _
theorem FnExactEvenPlies : laws_FnExactEvenPlies.Pure := by
  intro l q ⟨hl, hw⟩ _
  refine Ev.rounds ?_
  unfold laws_FnExactEvenPlies.f
  simp only [szYarn_f l 1048576 (by omega) (by omega), Option.bind_some]
  by_cases h : (l.length : Int) ≤ 1048576
  · have hn : ¬ (1048576 - (l.length : Int) < 0) := by omega
    simp only [if_pos h, if_neg hn]
    have ts := toYarnS_ev l (by omega) (by omega)
    have hw' : ∀ x ∈ l.map toY, -32768 ≤ x.f0 ∧ x.f0 ≤ 32767 := by
      intro x hx
      obtain ⟨y, hy, rfl⟩ := List.mem_map.1 hx
      exact wfp16 (hw y hy).1
    obtain ⟨⟨w, c, e⟩, f1, f2, fl⟩ := EvenPlies_same (l.map toY) q (by simp; omega) hw'
    have hw2 : (w.length : Int) ≤ 4611686018427387904 := by simp only at fl; omega
    obtain ⟨s, m1, m2⟩ := markInt64S_ev w hw2
    obtain ⟨s2, n2⟩ := markYarnS_ev (l.map toY) (by simp; omega)
    have hneg1 : ¬ (1 + 3 * ((l.map toY).length : Int) < 0) := by omega
    have hneg2 : ¬ (1 + (w.length : Int) < 0) := by omega
    refine Ev.bind ts (Ev.bind f1 (Ev.bind ts (Ev.bind f2 (Ev.bind (eqInt64S_self w hw2) ?_))))
    simp only [if_true, bne_self_eq_false]
    refine Ev.step (fun k => by simp only [laws_FnExactEvenPlies.j0, Bool.false_eq_true, if_false]; rfl) (Ev.bind ts (Ev.bind (eqYarnS_self (l.map toY) (by simp; omega)) ?_))
    simp only [if_true]
    refine Ev.bind n2 ?_
    simp only [if_neg hneg1]
    refine Ev.bind (eqInt64S_self w hw2) ?_
    simp only [if_true, bne_self_eq_false]
    refine Ev.step (fun k => by simp only [laws_FnExactEvenPlies.j1, Bool.false_eq_true, if_false]; rfl) (Ev.bind m1 (Ev.bind m2 ?_))
    simp only [if_neg hneg2, if_true]
    refine Ev.bind ts (Ev.bind f2 (Ev.bind (eqInt64S_self w hw2) ?_))
    simp only [if_true, bne_self_eq_false]
    refine Ev.step (fun k => by simp only [laws_FnExactEvenPlies.j2, Bool.false_eq_true, if_false]; rfl) (Ev.bind m2 ?_)
    simp only [if_neg hneg2, if_true]; exact Ev.now _
  · simp only [if_neg h, show ((-1 : Int) < 0) from by omega, if_true]; exact Ev.now _
end Go.Proofs.Ytjhjabibkkhmjaa.Pure
