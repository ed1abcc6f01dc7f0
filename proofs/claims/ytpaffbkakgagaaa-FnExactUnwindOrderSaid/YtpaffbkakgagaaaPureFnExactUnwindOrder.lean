/- Strands come off from the top of each reel. -/
import Derived.Test.YtpaffbkakgagaaaXFnExactUnwindOrderx3
namespace Go.Proofs.Ytpaffbkakgagaaa.Pure
open Go.RowKit Go.Proofs.Ytpaffbkakgagaaa.XFnExactUnwindOrder Go.Proofs.YtpaffbkakgagaaaW.PrintWords Go.Proofs.YtpaffbkakgagaaaW.PrintLast
set_option linter.unusedVariables false
set_option linter.unusedSimpArgs false
theorem wr {n : Int} (h0 : -9223372036854775808 ≤ n) (h1 : n ≤ 9223372036854775807) : wrap64 n = n := by
  unfold wrap64; omega
theorem wf64 {a : Int} (h : (Lit.int .i64 a).wf = true) : -9223372036854775808 ≤ a ∧ a ≤ 9223372036854775807 := by
  simp only [Lit.wf, IntKind.min, IntKind.max, IntKind.signed, IntKind.bits, Bool.and_eq_true, decide_eq_true_eq, if_true] at h
  omega
theorem ev_id {α : Type} {g : Nat → Option α} {r s : α} (h : Ev g r) (e : r = s) : Ev g s := e ▸ h
theorem ev_const {α : Type} {o : Option α} {r : α} (h : o = some r) : Ev (fun _ => o) r := ⟨0, fun _ _ => h⟩
theorem ev_fun {α : Type} {g : Nat → Option α} {r s : α} (h : Ev g r) (k : Ev g s) : r = s := by
  obtain ⟨a, h⟩ := h
  obtain ⟨b, k⟩ := k
  have x := h (max a b) (by omega)
  have y := k (max a b) (by omega)
  rw [x] at y; exact Option.some.inj y
/-- Both come to one answer. -/
def Same {α : Type} (g f : Nat → Option α) : Prop := ∃ r, Ev g r ∧ Ev f r
theorem Same.step {α : Type} {g f g' f' : Nat → Option α} (hg : ∀ k, g (k + 1) = g' k) (hf : ∀ k, f (k + 1) = f' k) (h : Same g' f') : Same g f := by
  obtain ⟨r, a, b⟩ := h
  exact ⟨r, Ev.step hg a, Ev.step hf b⟩
theorem Same.left {α : Type} {g f g' : Nat → Option α} (hg : ∀ k, g (k + 1) = g' k) (h : Same g' f) : Same g f := by
  obtain ⟨r, a, b⟩ := h
  exact ⟨r, Ev.step hg a, b⟩
theorem Same.right {α : Type} {g f f' : Nat → Option α} (hf : ∀ k, f (k + 1) = f' k) (h : Same g f') : Same g f := by
  obtain ⟨r, a, b⟩ := h
  exact ⟨r, a, Ev.step hf b⟩
theorem Same.now {α : Type} (r : α) : Same (fun _ => some r) (fun _ => some r) := ⟨r, Ev.now r, Ev.now r⟩
theorem if_dec {α : Type} {p : Prop} [Decidable p] (a b : α) : (if decide p = true then a else b) = if p then a else b := by
  by_cases h : p <;> simp [h]
theorem w00 : wrap64 0 = 0 := wr (by omega) (by omega)
theorem l00In_f (a b c : Int) : spec_l00In.f a b c = some (decide (b ≤ a ∧ a ≤ c)) := by
  unfold spec_l00In.f
  by_cases h : b ≤ a <;> simp [h]
theorem within_f (a b c : Int) : impl_within.f a b c = some (decide (b ≤ a ∧ a ≤ c)) := by
  unfold impl_within.f
  by_cases h : b ≤ a <;> simp [h]
theorem rd_lt {l : List Int} {i : Nat} (h : i < l.length) : rd l (i : Int) = l[i] := by
  unfold rd; simp [List.getD, h]
theorem eqInt64S_loop (a b : List Int) (hab : a.length = b.length) (hn : (a.length : Int) ≤ 4611686018427387904) (d : Nat) : ∀ (i : Nat), i ≤ a.length → a.length - i = d →
    Ev (fun k => laws_eqInt64S.l0 k a b (i : Int)) (decide (a.drop i = b.drop i)) := by
  induction d with
  | zero =>
    intro i hi hd
    refine Ev.step (f := fun _ => some (decide (a.drop i = b.drop i))) (fun k => ?_) (Ev.now _)
    simp only [laws_eqInt64S.l0]
    rw [if_neg (by omega), List.drop_eq_nil_of_le (by omega), List.drop_eq_nil_of_le (by omega)]; simp
  | succ d ih =>
    intro i hi hd
    have ha : i < a.length := by omega
    have hb : i < b.length := by omega
    by_cases e : a[i] = b[i]
    · refine Ev.step (fun k => ?_) (ev_id (ih (i + 1) (by omega) (by omega)) ?_)
      · simp only [laws_eqInt64S.l0]
        rw [if_pos (by omega), if_pos (by omega), if_pos (by omega), rd_lt ha, rd_lt hb, if_pos e, wr (by omega) (by omega)]; rfl
      · simp only [List.drop_eq_getElem_cons ha, List.drop_eq_getElem_cons hb, List.cons.injEq, e, true_and]
    · refine Ev.step (f := fun _ => some false) (fun k => ?_) (ev_id (Ev.now _) ?_)
      · simp only [laws_eqInt64S.l0]
        rw [if_pos (by omega), if_pos (by omega), if_pos (by omega), rd_lt ha, rd_lt hb, if_neg e]
      · simp only [List.drop_eq_getElem_cons ha, List.drop_eq_getElem_cons hb, List.cons.injEq, e, false_and, decide_false]
theorem eqInt64S_ev (a b : List Int) (hn : (a.length : Int) ≤ 4611686018427387904) : Ev (fun k => laws_eqInt64S.f k a b) (decide (a = b)) := by
  unfold laws_eqInt64S.f
  by_cases h : a.length = b.length
  · simp only [h, if_true]
    simpa using eqInt64S_loop a b h hn a.length 0 (by omega) (by omega)
  · have h' : ¬ (a.length : Int) = b.length := by omega
    simp only [if_neg h']
    have : a ≠ b := fun e => h (by rw [e])
    simpa [this] using Ev.now false
theorem eqInt64S_self (a : List Int) (hn : (a.length : Int) ≤ 4611686018427387904) : Ev (fun k => laws_eqInt64S.f k a a) true := by
  simpa using eqInt64S_ev a a hn
theorem markInt64S_loop (d : Nat) : ∀ (a p : List Int) (m : Int) (i : Nat), i + d = a.length → (a.length : Int) ≤ 4611686018427387904 → m = 1 + i → (∀ j (h : j < a.length), j < i → a[j] = 1 + (j : Int)) →
    ∃ r : List Int, Ev (fun k => laws_markInt64S.l0 k a m (i : Int)) (1 + (a.length : Int), r) ∧ r.length = a.length ∧ ∀ j (h : j < r.length), r[j] = 1 + (j : Int) := by
  induction d with
  | zero =>
    intro a p m i hi hn hm ha
    refine ⟨a, Ev.step (f := fun _ => some (1 + (a.length : Int), a)) (fun k => ?_) (Ev.now _), rfl, fun j h => ha j h (by omega)⟩
    simp only [laws_markInt64S.l0]
    rw [if_neg (by omega), show m = 1 + (a.length : Int) by omega]
  | succ d ih =>
    intro a p m i hi hn hm ha
    obtain ⟨r, h1, h2, h3⟩ := ih (a.set i m) p (m + 1) (i + 1) (by simp; omega) (by simpa using hn) (by omega) (by
      intro j h hj
      simp only [List.getElem_set]
      split
      · omega
      · exact ha j (by simpa using h) (by omega))
    simp only [List.length_set] at h1 h2
    refine ⟨r, Ev.step (fun k => ?_) h1, h2, h3⟩
    simp only [laws_markInt64S.l0]
    rw [if_pos (by omega), if_pos (by omega), wr (n := m + 1) (by omega) (by omega), wr (n := (i : Int) + 1) (by omega) (by omega)]; rfl
theorem heldInt64S_loop (a : List Int) (hn : (a.length : Int) ≤ 4611686018427387904) (ha : ∀ j (h : j < a.length), a[j] = 1 + (j : Int)) (d : Nat) : ∀ (i : Nat), i + d = a.length →
    Ev (fun k => laws_heldInt64S.l0 k a (1 + (i : Int)) (i : Int)) (1 + (a.length : Int)) := by
  induction d with
  | zero =>
    intro i hi
    refine Ev.step (f := fun _ => some (1 + (a.length : Int))) (fun k => ?_) (Ev.now _)
    simp only [laws_heldInt64S.l0]
    rw [if_neg (by omega), show i = a.length by omega]
  | succ d ih =>
    intro i hi
    refine Ev.step (fun k => ?_) (ih (i + 1) (by omega))
    simp only [laws_heldInt64S.l0]
    rw [if_pos (by omega), if_pos (by omega), rd_lt (by omega), if_pos (ha i (by omega)), wr (n := 1 + (i : Int) + 1) (by omega) (by omega), wr (n := (i : Int) + 1) (by omega) (by omega), show 1 + (i : Int) + 1 = 1 + ((i + 1 : Nat) : Int) by omega]; rfl
/-- What has been marked is held. -/
theorem markInt64S_ev (a : List Int) (hn : (a.length : Int) ≤ 4611686018427387904) :
    ∃ r : List Int, Ev (fun k => laws_markInt64S.f k a 1) (1 + (a.length : Int), r) ∧ Ev (fun k => laws_heldInt64S.f k r 1) (1 + (a.length : Int)) := by
  obtain ⟨r, h1, h2, h3⟩ := markInt64S_loop a.length a a 1 0 (by omega) hn (by omega) (fun j h hj => by omega)
  refine ⟨r, h1, ?_⟩
  have := heldInt64S_loop r (by omega) h3 r.length 0 (by omega)
  rw [h2] at this
  exact this
theorem toInt64S_loop (l : List Int) (hl : (l.length : Int) ≤ 140737488351232) (d : Nat) : ∀ (out rest : List Int) (i : Nat), out.length = i → rest.length = d → i + d = l.length →
    Ev (fun k => laws_toInt64S.l0 k l (out ++ rest) (i : Int)) (out ++ l.drop i) := by
  induction d with
  | zero =>
    intro out rest i ho hr hi
    refine Ev.step (f := fun _ => some (out ++ l.drop i)) (fun k => ?_) (Ev.now _)
    simp only [laws_toInt64S.l0]
    rw [if_neg (by omega), List.drop_eq_nil_of_le (by omega), List.length_eq_zero_iff.1 hr]
  | succ d ih =>
    intro out rest i ho hr hi
    have hil : i < l.length := by omega
    obtain ⟨y, rest, rfl⟩ : ∃ y r, rest = y :: r := by cases rest with | nil => simp at hr | cons y r => exact ⟨y, r, rfl⟩
    refine Ev.step (fun k => ?_) (ev_id (ih (out ++ [l[i]]) rest (i + 1) (by simp; omega) (by simpa using hr) (by omega)) ?_)
    · simp only [laws_toInt64S.l0]
      rw [if_pos (by omega), if_pos (by omega), if_pos (by simp; omega), rd_lt hil, wr (n := (i : Int) + 1) (by omega) (by omega)]
      have : (out ++ y :: rest).set (i : Int).toNat l[i] = out ++ [l[i]] ++ rest := by
        rw [Int.toNat_natCast, List.set_append_right _ _ (by omega), ho]; simp
      rw [this]; rfl
    · rw [List.drop_eq_getElem_cons hil]; simp only [List.append_assoc, List.cons_append, List.nil_append]
theorem toInt64S_ev (l : List Int) (hl : (l.length : Int) ≤ 35184372088832) : Ev (fun k => laws_toInt64S.f k l) l := by
  unfold laws_toInt64S.f
  have h0 : (0 : Int) ≤ (l.length : Int) := by omega
  have h1 : ((l.length : Int) : Int).toNat ≤ 35184372088832 := by omega
  simp only [if_pos h0, if_pos h1]
  have := toInt64S_loop l (by omega) l.length [] (List.replicate l.length 0) 0 rfl (by simp) (by omega)
  simpa using this
theorem markInt64S_from_loop (d : Nat) : ∀ (a : List Int) (m : Int) (i : Nat), i + d = a.length → (a.length : Int) ≤ 1073741824 → 0 ≤ m → m + d ≤ 4611686018427387904 →
    ∃ r : List Int, Ev (fun k => laws_markInt64S.l0 k a m (i : Int)) (m + d, r) := by
  induction d with
  | zero =>
    intro a m i hi hn h0 h1
    refine ⟨a, Ev.step (f := fun _ => some (m, a)) (fun k => ?_) (ev_id (Ev.now _) (by simp))⟩
    simp only [laws_markInt64S.l0]
    rw [if_neg (by omega)]
  | succ d ih =>
    intro a m i hi hn h0 h1
    obtain ⟨r, h⟩ := ih (a.set i m) (m + 1) (i + 1) (by simp; omega) (by simpa using hn) (by omega) (by omega)
    refine ⟨r, Ev.step (fun k => ?_) (ev_id h (by rw [Prod.mk.injEq]; exact ⟨by omega, rfl⟩))⟩
    simp only [laws_markInt64S.l0]
    rw [if_pos (by omega), if_pos (by omega), wr (n := m + 1) (by omega) (by omega), wr (n := (i : Int) + 1) (by omega) (by omega)]; rfl
theorem markInt64S_from (a : List Int) (m : Int) (hn : (a.length : Int) ≤ 1073741824) (h0 : 0 ≤ m) (h1 : m ≤ 1099511627776) : ∃ r : List Int, Ev (fun k => laws_markInt64S.f k a m) (m + a.length, r) := by
  obtain ⟨r, h⟩ := markInt64S_from_loop a.length a m 0 (by omega) hn h0 (by omega)
  exact ⟨r, h⟩
theorem allO_some {α : Type} (p : α → Bool) : ∀ l : List α, allO (fun x => some (p x)) l = some (l.all p)
  | [] => rfl
  | x :: l => by
    simp only [allO, Option.bind_some, List.all_cons, allO_some p l]
    cases p x <;> simp
theorem allG_some {α : Type} (p : α → Bool) (l : List α) (h : (l.length : Int) ≤ 4611686018427387904) : allG l (fun x => some (p x)) = some (l.all p) := by
  unfold allG; rw [if_pos h, allO_some]
def isR (x : Int) : Bool := decide (0 ≤ x ∧ x ≤ 7)
/-- The code for the numbers of reels. -/
def toldC (l : List Int) : Int := if (l.length : Int) > 8 then 3 else if l.all isR = true then 0 else 2
theorem told_loop (l : List Int) (hl : (l.length : Int) ≤ 140737488351232) (d : Nat) : ∀ (i : Nat), i + d = l.length → Ev (fun k => spec_l04Told.l0 k l (i : Int)) (if (l.drop i).all isR = true then 0 else 2) := by
  induction d with
  | zero =>
    intro i hi
    refine Ev.step (f := fun _ => some 0) (fun k => ?_) (ev_id (Ev.now _) ?_)
    · simp only [spec_l04Told.l0]; rw [if_neg (by omega)]
    · rw [List.drop_eq_nil_of_le (by omega)]; rfl
  | succ d ih =>
    intro i hi
    have hil : i < l.length := by omega
    rw [List.drop_eq_getElem_cons hil, List.all_cons]
    by_cases h1 : 0 ≤ l[i] ∧ l[i] ≤ 7
    · refine Ev.step (fun k => ?_) (ev_id (ih (i + 1) (by omega)) (by rw [show isR l[i] = true from decide_eq_true h1, Bool.true_and]))
      simp only [spec_l04Told.l0, spec_l04Number.f, rd_lt hil, l00In_f, Option.bind_some, if_dec]
      rw [if_pos (by omega), if_pos (by omega), if_pos h1, wr (n := (i : Int) + 1) (by omega) (by omega)]; rfl
    · refine Ev.step (f := fun _ => some 2) (fun k => ?_) (ev_id (Ev.now _) (by rw [show isR l[i] = false from decide_eq_false h1, Bool.false_and]; rfl))
      simp only [spec_l04Told.l0, spec_l04Number.f, rd_lt hil, l00In_f, Option.bind_some, if_dec]
      rw [if_pos (by omega), if_pos (by omega), if_neg h1]
theorem told_ev (l : List Int) (hl : (l.length : Int) ≤ 140737488351232) : Ev (fun k => spec_l04Told.f k l) (toldC l) := by
  unfold spec_l04Told.f toldC
  by_cases h : (l.length : Int) > 8
  · simp only [if_pos h]; exact Ev.now _
  · simp only [if_neg h]
    have := told_loop l hl l.length 0 (by omega)
    simpa using this
theorem isR_f (x : Int) : impl_isReel.f x = some (isR x) := by
  unfold impl_isReel.f isR; rw [within_f]; rfl
theorem unwindCode_f (l : List Int) (hl : (l.length : Int) ≤ 140737488351232) : impl_unwindCode.f l = some (toldC l) := by
  unfold impl_unwindCode.f toldC
  by_cases h : (l.length : Int) > 8
  · simp only [if_pos h]
  · simp only [if_neg h]
    have e : (fun x_ : Int => impl_isReel.f x_) = fun x => some (isR x) := funext isR_f
    show (allG l _).bind _ = _
    rw [e, allG_some isR l (by omega)]
    cases l.all isR <;> rfl
theorem order_in (l : List Int) (hl : l.length ≤ 8) (x : Int) (h0 : 0 ≤ x) (h1 : x < 8)
    (K : ∀ out : List Int, (out.length : Int) ≤ 8 * (x + 1) → ∃ r : List Int × Int, Ev (fun k => spec_UnwindOrder.l0 k l out (x + 1)) r ∧ Ev (fun k => impl_UnwindOrder.l0 k l out (x + 1)) r ∧ r.1.length ≤ 64) (j : Nat) :
    ∀ out : List Int, j ≤ l.length → (out.length : Int) + j ≤ 8 * x + 8 → ∃ r : List Int × Int, Ev (fun k => spec_UnwindOrder.l1 k l out x ((j : Int) - 1)) r ∧ Ev (fun k => impl_UnwindOrder.l1 k l out x ((j : Int) - 1) x) r ∧ r.1.length ≤ 64 := by
  induction j with
  | zero =>
    intro out hj ho
    obtain ⟨r, r1, r2, r3⟩ := K out (by omega)
    refine ⟨r, Ev.step (fun k => ?_) r1, Ev.step (fun k => ?_) r2, r3⟩
    · simp only [spec_UnwindOrder.l1]; rw [if_neg (by omega), wr (n := x + 1) (by omega) (by omega)]
    · simp only [impl_UnwindOrder.l1]; rw [if_neg (by omega), wr (n := x + 1) (by omega) (by omega)]
  | succ j ih =>
    intro out hj ho
    have e : ((j + 1 : Nat) : Int) - 1 = (j : Int) := by omega
    have hjl : j < l.length := by omega
    have w : wrap64 ((j : Int) - 1) = (j : Int) - 1 := wr (by omega) (by omega)
    rw [e]
    by_cases h : l[j] = x
    · obtain ⟨r, r1, r2, r3⟩ := ih (out ++ [(j : Int)]) (by omega) (by simp; omega)
      refine ⟨r, Ev.step (fun k => ?_) r1, Ev.step (fun k => ?_) r2, r3⟩
      · simp only [spec_UnwindOrder.l1]; rw [if_pos (by omega), if_pos (by omega), if_pos (by omega), rd_lt hjl, if_pos h, if_pos (by omega), w]
      · simp only [impl_UnwindOrder.l1]; rw [if_pos (by omega), if_pos (by omega), if_pos (by omega), rd_lt hjl, if_pos h, if_pos (by omega), w]
    · obtain ⟨r, r1, r2, r3⟩ := ih out (by omega) (by omega)
      refine ⟨r, Ev.step (fun k => ?_) r1, Ev.step (fun k => ?_) r2, r3⟩
      · simp only [spec_UnwindOrder.l1]; rw [if_pos (by omega), if_pos (by omega), if_pos (by omega), rd_lt hjl, if_neg h, w]
      · simp only [impl_UnwindOrder.l1]; rw [if_pos (by omega), if_pos (by omega), if_pos (by omega), rd_lt hjl, if_neg h, w]
theorem order_out (l : List Int) (hl : l.length ≤ 8) (d : Nat) : ∀ (x : Int) (out : List Int), 0 ≤ x → x + d = 8 → (out.length : Int) ≤ 8 * x →
    ∃ r : List Int × Int, Ev (fun k => spec_UnwindOrder.l0 k l out x) r ∧ Ev (fun k => impl_UnwindOrder.l0 k l out x) r ∧ r.1.length ≤ 64 := by
  induction d with
  | zero =>
    intro x out h0 hx ho
    refine ⟨(out, 0), Ev.step (f := fun _ => some (out, 0)) (fun k => ?_) (Ev.now _), Ev.step (f := fun _ => some (out, 0)) (fun k => ?_) (Ev.now _), by simp only; omega⟩
    · simp only [spec_UnwindOrder.l0]; rw [if_neg (by omega)]
    · simp only [impl_UnwindOrder.l0]; rw [if_neg (by omega)]
  | succ d ih =>
    intro x out h0 hx ho
    obtain ⟨r, r1, r2, r3⟩ := order_in l hl x h0 (by omega) (fun out h => ih (x + 1) out (by omega) (by omega) (by omega)) l.length out (Nat.le_refl _) (by omega)
    have w : wrap64 ((l.length : Int) - 1) = (l.length : Int) - 1 := wr (by omega) (by omega)
    refine ⟨r, Ev.step (fun k => ?_) r1, Ev.step (fun k => ?_) r2, r3⟩
    · simp only [spec_UnwindOrder.l0]; rw [if_pos (by omega), w]
    · simp only [impl_UnwindOrder.l0]; rw [if_pos (by omega), w]
theorem order_same (l : List Int) (hl : (l.length : Int) ≤ 140737488351232) : ∃ r : List Int × Int, Ev (fun k => spec_UnwindOrder.f k l) r ∧ Ev (fun k => impl_UnwindOrder.f k l) r ∧ r.1.length ≤ 64 := by
  unfold spec_UnwindOrder.f impl_UnwindOrder.f
  simp only [unwindCode_f l hl, Option.bind_some]
  by_cases h : toldC l = 0
  · have hl8 : l.length ≤ 8 := by
      unfold toldC at h
      by_cases h8 : (l.length : Int) > 8
      · rw [if_pos h8] at h; omega
      · omega
    obtain ⟨r, r1, r2, r3⟩ := order_out l hl8 8 0 [] (by omega) (by omega) (by simp)
    have te := told_ev l hl
    rw [h] at te
    exact ⟨r, Ev.bind te (by simp only [if_true]; exact r1), by simp only [if_pos h]; exact r2, r3⟩
  · exact ⟨([], toldC l), Ev.bind (told_ev l hl) (by simp only [if_neg h]; exact Ev.now _), by simp only [if_neg h]; exact Ev.now _, by simp⟩
theorem FnExactUnwindOrder : laws_FnExactUnwindOrder.Pure := by
  intro l ⟨hl, hs⟩
  refine Ev.rounds ?_
  unfold laws_FnExactUnwindOrder.f
  by_cases hL : (l.length : Int) > 1048576
  · simp only [if_pos hL]; exact Ev.now _
  · simp only [if_neg hL]
    have ht := toInt64S_ev l (by omega)
    obtain ⟨⟨w, c⟩, f1, f2, fl⟩ := order_same l (by omega)
    have hw : (w.length : Int) ≤ 4611686018427387904 := by simp only at fl; omega
    obtain ⟨s, m1, m2⟩ := markInt64S_ev w hw
    obtain ⟨s', n1⟩ := markInt64S_from l 1 (by omega) (by omega) (by omega)
    have hneg1 : ¬ (1 + (l.length : Int) < 0) := by omega
    have hneg2 : ¬ (1 + (w.length : Int) < 0) := by omega
    refine Ev.bind ht (Ev.bind f1 (Ev.bind ht (Ev.bind f2 (Ev.bind (eqInt64S_self w hw) ?_))))
    simp only [if_true, bne_self_eq_false]
    refine Ev.step (fun k => by simp only [laws_FnExactUnwindOrder.j0, Bool.false_eq_true, if_false]; rfl) (Ev.bind ht (Ev.bind (eqInt64S_self l (by omega)) ?_))
    simp only [if_true]
    refine Ev.bind n1 ?_
    simp only [if_neg hneg1]
    refine Ev.bind (eqInt64S_self w hw) ?_
    simp only [if_true, bne_self_eq_false]
    refine Ev.step (fun k => by simp only [laws_FnExactUnwindOrder.j1, Bool.false_eq_true, if_false]; rfl) (Ev.bind m1 (Ev.bind m2 ?_))
    simp only [if_neg hneg2, if_true]
    refine Ev.bind ht (Ev.bind f2 (Ev.bind (eqInt64S_self w hw) ?_))
    simp only [if_true, bne_self_eq_false]
    refine Ev.step (fun k => by simp only [laws_FnExactUnwindOrder.j2, Bool.false_eq_true, if_false]; rfl) (Ev.bind m2 ?_)
    simp only [if_neg hneg2, if_true]; exact Ev.now _
end Go.Proofs.Ytpaffbkakgagaaa.Pure
