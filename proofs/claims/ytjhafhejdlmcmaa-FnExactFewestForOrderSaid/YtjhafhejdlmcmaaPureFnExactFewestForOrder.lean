/- The program's FewestForOrder and the reference's give the same answer at all orders; no conditions. -/
import Derived.Test.YtjhafhejdlmcmaaXFnExactFewestForOrderx4
namespace Go.Proofs.Ytjhafhejdlmcmaa.Pure
open Go.RowKit Go.Proofs.Ytjhafhejdlmcmaa.XFnExactFewestForOrder Go.Proofs.YtjhafhejdlmcmaaW.PrintWords Go.Proofs.YtjhafhejdlmcmaaW.PrintLast
set_option linter.unusedVariables false
set_option linter.unusedSimpArgs false
theorem wr {n : Int} (h0 : -9223372036854775808 ≤ n) (h1 : n ≤ 9223372036854775807) : wrap64 n = n := by
  unfold wrap64; omega
theorem wf64 {a : Int} (h : (Lit.int .i64 a).wf = true) : -9223372036854775808 ≤ a ∧ a ≤ 9223372036854775807 := by
  simp only [Lit.wf, IntKind.min, IntKind.max, IntKind.signed, IntKind.bits, Bool.and_eq_true, decide_eq_true_eq, if_true] at h
  omega
theorem ev_id {α : Type} {g : Nat → Option α} {r s : α} (h : Ev g r) (e : r = s) : Ev g s := e ▸ h
theorem ev_const {α : Type} {o : Option α} {r : α} (h : o = some r) : Ev (fun _ => o) r := ⟨0, fun _ _ => h⟩
theorem ev_fun {α : Type} {g : Nat → Option α} {r s : α} (h : Ev g r) (k : Ev g s) : r = s := by
  obtain ⟨a, h⟩ := h
  obtain ⟨b, k⟩ := k
  have x := h (max a b) (by omega)
  have y := k (max a b) (by omega)
  rw [x] at y; exact Option.some.inj y
/-- Both come to one answer. -/
def Same {α : Type} (g f : Nat → Option α) : Prop := ∃ r, Ev g r ∧ Ev f r
theorem Same.step {α : Type} {g f g' f' : Nat → Option α} (hg : ∀ k, g (k + 1) = g' k) (hf : ∀ k, f (k + 1) = f' k) (h : Same g' f') : Same g f := by
  obtain ⟨r, a, b⟩ := h
  exact ⟨r, Ev.step hg a, Ev.step hf b⟩
theorem Same.left {α : Type} {g f g' : Nat → Option α} (hg : ∀ k, g (k + 1) = g' k) (h : Same g' f) : Same g f := by
  obtain ⟨r, a, b⟩ := h
  exact ⟨r, Ev.step hg a, b⟩
theorem Same.right {α : Type} {g f f' : Nat → Option α} (hf : ∀ k, f (k + 1) = f' k) (h : Same g f') : Same g f := by
  obtain ⟨r, a, b⟩ := h
  exact ⟨r, a, Ev.step hf b⟩
theorem Same.now {α : Type} (r : α) : Same (fun _ => some r) (fun _ => some r) := ⟨r, Ev.now r, Ev.now r⟩
theorem if_dec {α : Type} {p : Prop} [Decidable p] (a b : α) : (if decide p = true then a else b) = if p then a else b := by
  by_cases h : p <;> simp [h]
theorem w00 : wrap64 0 = 0 := wr (by omega) (by omega)
theorem l00In_f (a b c : Int) : spec_l00In.f a b c = some (decide (b ≤ a ∧ a ≤ c)) := by
  unfold spec_l00In.f
  by_cases h : b ≤ a <;> simp [h]
theorem within_f (a b c : Int) : impl_within.f a b c = some (decide (b ≤ a ∧ a ≤ c)) := by
  unfold impl_within.f
  by_cases h : b ≤ a <;> simp [h]
theorem rd_lt {l : List Int} {i : Nat} (h : i < l.length) : rd l (i : Int) = l[i] := by
  unfold rd; simp [List.getD, h]
theorem eqInt64S_loop (a b : List Int) (hab : a.length = b.length) (hn : (a.length : Int) ≤ 4611686018427387904) (d : Nat) : ∀ (i : Nat), i ≤ a.length → a.length - i = d →
    Ev (fun k => laws_eqInt64S.l0 k a b (i : Int)) (decide (a.drop i = b.drop i)) := by
  induction d with
  | zero =>
    intro i hi hd
    refine Ev.step (f := fun _ => some (decide (a.drop i = b.drop i))) (fun k => ?_) (Ev.now _)
    simp only [laws_eqInt64S.l0]
    rw [if_neg (by omega), List.drop_eq_nil_of_le (by omega), List.drop_eq_nil_of_le (by omega)]; simp
  | succ d ih =>
    intro i hi hd
    have ha : i < a.length := by omega
    have hb : i < b.length := by omega
    by_cases e : a[i] = b[i]
    · refine Ev.step (fun k => ?_) (ev_id (ih (i + 1) (by omega) (by omega)) ?_)
      · simp only [laws_eqInt64S.l0]
        rw [if_pos (by omega), if_pos (by omega), if_pos (by omega), rd_lt ha, rd_lt hb, if_pos e, wr (by omega) (by omega)]; rfl
      · simp only [List.drop_eq_getElem_cons ha, List.drop_eq_getElem_cons hb, List.cons.injEq, e, true_and]
    · refine Ev.step (f := fun _ => some false) (fun k => ?_) (ev_id (Ev.now _) ?_)
      · simp only [laws_eqInt64S.l0]
        rw [if_pos (by omega), if_pos (by omega), if_pos (by omega), rd_lt ha, rd_lt hb, if_neg e]
      · simp only [List.drop_eq_getElem_cons ha, List.drop_eq_getElem_cons hb, List.cons.injEq, e, false_and, decide_false]
theorem eqInt64S_ev (a b : List Int) (hn : (a.length : Int) ≤ 4611686018427387904) : Ev (fun k => laws_eqInt64S.f k a b) (decide (a = b)) := by
  unfold laws_eqInt64S.f
  by_cases h : a.length = b.length
  · simp only [h, if_true]
    simpa using eqInt64S_loop a b h hn a.length 0 (by omega) (by omega)
  · have h' : ¬ (a.length : Int) = b.length := by omega
    simp only [if_neg h']
    have : a ≠ b := fun e => h (by rw [e])
    simpa [this] using Ev.now false
theorem eqInt64S_self (a : List Int) (hn : (a.length : Int) ≤ 4611686018427387904) : Ev (fun k => laws_eqInt64S.f k a a) true := by
  simpa using eqInt64S_ev a a hn
theorem markInt64S_loop (d : Nat) : ∀ (a p : List Int) (m : Int) (i : Nat), i + d = a.length → (a.length : Int) ≤ 4611686018427387904 → m = 1 + i → (∀ j (h : j < a.length), j < i → a[j] = 1 + (j : Int)) →
    ∃ r : List Int, Ev (fun k => laws_markInt64S.l0 k a m (i : Int)) (1 + (a.length : Int), r) ∧ r.length = a.length ∧ ∀ j (h : j < r.length), r[j] = 1 + (j : Int) := by
  induction d with
  | zero =>
    intro a p m i hi hn hm ha
    refine ⟨a, Ev.step (f := fun _ => some (1 + (a.length : Int), a)) (fun k => ?_) (Ev.now _), rfl, fun j h => ha j h (by omega)⟩
    simp only [laws_markInt64S.l0]
    rw [if_neg (by omega), show m = 1 + (a.length : Int) by omega]
  | succ d ih =>
    intro a p m i hi hn hm ha
    obtain ⟨r, h1, h2, h3⟩ := ih (a.set i m) p (m + 1) (i + 1) (by simp; omega) (by simpa using hn) (by omega) (by
      intro j h hj
      simp only [List.getElem_set]
      split
      · omega
      · exact ha j (by simpa using h) (by omega))
    simp only [List.length_set] at h1 h2
    refine ⟨r, Ev.step (fun k => ?_) h1, h2, h3⟩
    simp only [laws_markInt64S.l0]
    rw [if_pos (by omega), if_pos (by omega), wr (n := m + 1) (by omega) (by omega), wr (n := (i : Int) + 1) (by omega) (by omega)]; rfl
theorem heldInt64S_loop (a : List Int) (hn : (a.length : Int) ≤ 4611686018427387904) (ha : ∀ j (h : j < a.length), a[j] = 1 + (j : Int)) (d : Nat) : ∀ (i : Nat), i + d = a.length →
    Ev (fun k => laws_heldInt64S.l0 k a (1 + (i : Int)) (i : Int)) (1 + (a.length : Int)) := by
  induction d with
  | zero =>
    intro i hi
    refine Ev.step (f := fun _ => some (1 + (a.length : Int))) (fun k => ?_) (Ev.now _)
    simp only [laws_heldInt64S.l0]
    rw [if_neg (by omega), show i = a.length by omega]
  | succ d ih =>
    intro i hi
    refine Ev.step (fun k => ?_) (ih (i + 1) (by omega))
    simp only [laws_heldInt64S.l0]
    rw [if_pos (by omega), if_pos (by omega), rd_lt (by omega), if_pos (ha i (by omega)), wr (n := 1 + (i : Int) + 1) (by omega) (by omega), wr (n := (i : Int) + 1) (by omega) (by omega), show 1 + (i : Int) + 1 = 1 + ((i + 1 : Nat) : Int) by omega]; rfl
/-- What has been marked is held. -/
theorem markInt64S_ev (a : List Int) (hn : (a.length : Int) ≤ 4611686018427387904) :
    ∃ r : List Int, Ev (fun k => laws_markInt64S.f k a 1) (1 + (a.length : Int), r) ∧ Ev (fun k => laws_heldInt64S.f k r 1) (1 + (a.length : Int)) := by
  obtain ⟨r, h1, h2, h3⟩ := markInt64S_loop a.length a a 1 0 (by omega) hn (by omega) (fun j h hj => by omega)
  refine ⟨r, h1, ?_⟩
  have := heldInt64S_loop r (by omega) h3 r.length 0 (by omega)
  rw [h2] at this
  exact this
theorem toInt64S_loop (l : List Int) (hl : (l.length : Int) ≤ 140737488351232) (d : Nat) : ∀ (out rest : List Int) (i : Nat), out.length = i → rest.length = d → i + d = l.length →
    Ev (fun k => laws_toInt64S.l0 k l (out ++ rest) (i : Int)) (out ++ l.drop i) := by
  induction d with
  | zero =>
    intro out rest i ho hr hi
    refine Ev.step (f := fun _ => some (out ++ l.drop i)) (fun k => ?_) (Ev.now _)
    simp only [laws_toInt64S.l0]
    rw [if_neg (by omega), List.drop_eq_nil_of_le (by omega), List.length_eq_zero_iff.1 hr]
  | succ d ih =>
    intro out rest i ho hr hi
    have hil : i < l.length := by omega
    obtain ⟨y, rest, rfl⟩ : ∃ y r, rest = y :: r := by cases rest with | nil => simp at hr | cons y r => exact ⟨y, r, rfl⟩
    refine Ev.step (fun k => ?_) (ev_id (ih (out ++ [l[i]]) rest (i + 1) (by simp; omega) (by simpa using hr) (by omega)) ?_)
    · simp only [laws_toInt64S.l0]
      rw [if_pos (by omega), if_pos (by omega), if_pos (by simp; omega), rd_lt hil, wr (n := (i : Int) + 1) (by omega) (by omega)]
      have : (out ++ y :: rest).set (i : Int).toNat l[i] = out ++ [l[i]] ++ rest := by
        rw [Int.toNat_natCast, List.set_append_right _ _ (by omega), ho]; simp
      rw [this]; rfl
    · rw [List.drop_eq_getElem_cons hil]; simp only [List.append_assoc, List.cons_append, List.nil_append]
theorem toInt64S_ev (l : List Int) (hl : (l.length : Int) ≤ 35184372088832) : Ev (fun k => laws_toInt64S.f k l) l := by
  unfold laws_toInt64S.f
  have h0 : (0 : Int) ≤ (l.length : Int) := by omega
  have h1 : ((l.length : Int) : Int).toNat ≤ 35184372088832 := by omega
  simp only [if_pos h0, if_pos h1]
  have := toInt64S_loop l (by omega) l.length [] (List.replicate l.length 0) 0 rfl (by simp) (by omega)
  simpa using this
theorem markInt64S_from_loop (d : Nat) : ∀ (a : List Int) (m : Int) (i : Nat), i + d = a.length → (a.length : Int) ≤ 1073741824 → 0 ≤ m → m + d ≤ 4611686018427387904 →
    ∃ r : List Int, Ev (fun k => laws_markInt64S.l0 k a m (i : Int)) (m + d, r) := by
  induction d with
  | zero =>
    intro a m i hi hn h0 h1
    refine ⟨a, Ev.step (f := fun _ => some (m, a)) (fun k => ?_) (ev_id (Ev.now _) (by simp))⟩
    simp only [laws_markInt64S.l0]
    rw [if_neg (by omega)]
  | succ d ih =>
    intro a m i hi hn h0 h1
    obtain ⟨r, h⟩ := ih (a.set i m) (m + 1) (i + 1) (by simp; omega) (by simpa using hn) (by omega) (by omega)
    refine ⟨r, Ev.step (fun k => ?_) (ev_id h (by rw [Prod.mk.injEq]; exact ⟨by omega, rfl⟩))⟩
    simp only [laws_markInt64S.l0]
    rw [if_pos (by omega), if_pos (by omega), wr (n := m + 1) (by omega) (by omega), wr (n := (i : Int) + 1) (by omega) (by omega)]; rfl
theorem markInt64S_from (a : List Int) (m : Int) (hn : (a.length : Int) ≤ 1073741824) (h0 : 0 ≤ m) (h1 : m ≤ 1099511627776) : ∃ r : List Int, Ev (fun k => laws_markInt64S.f k a m) (m + a.length, r) := by
  obtain ⟨r, h⟩ := markInt64S_from_loop a.length a m 0 (by omega) hn h0 (by omega)
  exact ⟨r, h⟩
/-- All of so many numbers, each once. -/
def isOrd (n : Nat) (l : List Int) : Bool := decide (l.length = n ∧ (∀ x ∈ l, 0 ≤ x ∧ x ≤ (n : Int) - 1) ∧ l.Nodup)
theorem has_loop (l : List Int) (x : Int) (hl : (l.length : Int) ≤ 140737488351232) (d : Nat) : ∀ (i : Nat), i + d = l.length → Ev (fun k => spec_l00Has.l0 k l x (i : Int)) (decide (x ∈ l.drop i)) := by
  induction d with
  | zero =>
    intro i hi
    refine Ev.step (f := fun _ => some false) (fun k => ?_) (ev_id (Ev.now _) ?_)
    · simp only [spec_l00Has.l0]; rw [if_neg (by omega)]
    · rw [List.drop_eq_nil_of_le (by omega)]; simp
  | succ d ih =>
    intro i hi
    have hil : i < l.length := by omega
    rw [List.drop_eq_getElem_cons hil]
    by_cases h : l[i] = x
    · refine Ev.step (f := fun _ => some true) (fun k => ?_) (ev_id (Ev.now _) (by simp [h]))
      simp only [spec_l00Has.l0, rd_lt hil]
      rw [if_pos (by omega), if_pos (by omega), if_pos h]
    · refine Ev.step (fun k => ?_) (ev_id (ih (i + 1) (by omega)) (by rw [decide_eq_decide, List.mem_cons]; exact ⟨Or.inr, fun z => z.resolve_left (fun e => h e.symm)⟩))
      simp only [spec_l00Has.l0, rd_lt hil]
      rw [if_pos (by omega), if_pos (by omega), if_neg h, wr (n := (i : Int) + 1) (by omega) (by omega)]; rfl
theorem has_ev (l : List Int) (x : Int) (hl : (l.length : Int) ≤ 140737488351232) : Ev (fun k => spec_l00Has.f k l x) (decide (x ∈ l)) := by
  unfold spec_l00Has.f
  have := has_loop l x hl l.length 0 (by omega)
  simpa using this
theorem take_snoc (l : List Int) {i : Nat} (h : i < l.length) : l.take (i + 1) = l.take i ++ [l[i]] := by
  rw [List.take_add_one, List.getElem?_eq_getElem h]; rfl
theorem each_loop (n : Nat) (hn : (n : Int) ≤ 1048576) (l : List Int) (hl : (l.length : Int) ≤ 140737488351232) (d : Nat) : ∀ (i : Nat), i + d = l.length → (∀ x ∈ l.take i, 0 ≤ x ∧ x ≤ (n : Int) - 1) → (l.take i).Nodup → Ev (fun k => spec_l04Each.l0 k (n : Int) l (i : Int)) (isOrd n l) := by
  induction d with
  | zero =>
    intro i hi h1 h2
    have : i = l.length := by omega
    subst this
    rw [List.take_length] at h1 h2
    refine Ev.step (f := fun _ => some ((l.length : Int) == (n : Int))) (fun k => ?_) (ev_id (Ev.now _) ?_)
    · simp only [spec_l04Each.l0]; rw [if_neg (by omega)]
    · unfold isOrd
      by_cases e : l.length = n
      · rw [decide_eq_true ⟨e, h1, h2⟩, e]; simp
      · rw [decide_eq_false (fun z => e z.1)]
        exact beq_eq_false_iff_ne.mpr (by omega)
  | succ d ih =>
    intro i hi h1 h2
    have hil : i < l.length := by omega
    have wn : wrap64 ((n : Int) - 1) = (n : Int) - 1 := wr (by omega) (by omega)
    by_cases hr : 0 ≤ l[i] ∧ l[i] ≤ (n : Int) - 1
    · have hh := has_ev (l.take i) l[i] (by rw [List.length_take]; omega)
      by_cases hm : l[i] ∈ l.take i
      · rw [decide_eq_true hm] at hh
        have : isOrd n l = false := decide_eq_false (fun z => by
          have q := z.2.2
          rw [← List.take_append_drop (i + 1) l, take_snoc l hil] at q
          have q2 := (List.nodup_append.1 (List.nodup_append.1 q).1).2.2 _ hm l[i] (by simp)
          exact q2 rfl)
        rw [this]
        refine Ev.step (f := fun k => (spec_l00Has.f k (l.take i) l[i]).bind fun t => if t = true then some false else spec_l04Each.l0 k (n : Int) l ((i + 1 : Nat) : Int)) (fun k => ?_) (Ev.bind hh ?_)
        · simp only [spec_l04Each.l0, rd_lt hil, l00In_f, Option.bind_some, if_dec, wn]
          rw [if_pos (by omega), if_pos (by omega), if_pos hr, if_pos (by omega), Int.toNat_natCast, wr (n := (i : Int) + 1) (by omega) (by omega)]
          rfl
        · simp only [if_true]; exact Ev.now _
      · rw [decide_eq_false hm] at hh
        refine Ev.step (f := fun k => (spec_l00Has.f k (l.take i) l[i]).bind fun t => if t = true then some false else spec_l04Each.l0 k (n : Int) l ((i + 1 : Nat) : Int)) (fun k => ?_) (Ev.bind hh ?_)
        · simp only [spec_l04Each.l0, rd_lt hil, l00In_f, Option.bind_some, if_dec, wn]
          rw [if_pos (by omega), if_pos (by omega), if_pos hr, if_pos (by omega), Int.toNat_natCast, wr (n := (i : Int) + 1) (by omega) (by omega)]
          rfl
        · simp only [Bool.false_eq_true, if_false]
          refine ih (i + 1) (by omega) ?_ ?_
          · intro x hx
            rw [take_snoc l hil] at hx
            rcases List.mem_append.1 hx with hx | hx
            · exact h1 x hx
            · rw [List.mem_singleton.1 hx]; exact hr
          · rw [take_snoc l hil]
            refine List.nodup_append.2 ⟨h2, by simp, ?_⟩
            intro a ha b hb
            rw [List.mem_singleton.1 hb]
            intro e; exact hm (e ▸ ha)
    · have : isOrd n l = false := decide_eq_false (fun z => hr (z.2.1 _ (List.getElem_mem hil)))
      rw [this]
      refine Ev.step (f := fun _ => some false) (fun k => ?_) (Ev.now _)
      simp only [spec_l04Each.l0, rd_lt hil, l00In_f, Option.bind_some, if_dec, wn]
      rw [if_pos (by omega), if_pos (by omega), if_neg hr]
theorem each_ev (n : Nat) (hn : (n : Int) ≤ 1048576) (l : List Int) (hl : (l.length : Int) ≤ 140737488351232) : Ev (fun k => spec_l04Each.f k (n : Int) l) (isOrd n l) := by
  unfold spec_l04Each.f
  exact each_loop n hn l hl l.length 0 (by omega) (by simp) (by simp)
theorem incr_loop (B : Int) (s : List Int) (hs : s.Pairwise (fun a b => a ≤ b)) (hl : (s.length : Int) ≤ 140737488351232) (d : Nat) : ∀ (i : Nat), i + d = s.length → (∀ x ∈ s.take i, 0 ≤ x ∧ x ≤ B) → (s.take i).Pairwise (fun a b => a < b) →
    Ev (fun k => impl_areIncreasing.l0 k s 0 B s (s.length : Int) (i : Int)) (decide ((∀ x ∈ s, 0 ≤ x ∧ x ≤ B) ∧ s.Pairwise (fun a b => a < b))) := by
  induction d with
  | zero =>
    intro i hi h1 h2
    have : i = s.length := by omega
    subst this
    rw [List.take_length] at h1 h2
    rw [decide_eq_true ⟨h1, h2⟩]
    refine Ev.step (f := fun _ => some true) (fun k => ?_) (Ev.now _)
    simp only [impl_areIncreasing.l0]; rw [if_neg (by omega)]
  | succ d ih =>
    intro i hi h1 h2
    have hil : i < s.length := by omega
    by_cases hr : 0 ≤ s[i] ∧ s[i] ≤ B
    · have more : (0 < i → s[i - 1]'(by omega) < s[i]) → (s.take (i + 1)).Pairwise (fun a b => a < b) := by
        intro hp
        rw [take_snoc s hil]
        refine List.pairwise_append.2 ⟨h2, by simp, ?_⟩
        intro a ha b hb
        rw [List.mem_singleton.1 hb]
        obtain ⟨j, hj, rfl⟩ := List.mem_iff_getElem.1 ha
        rw [List.length_take] at hj
        rw [List.getElem_take]
        have hlt := hp (by omega)
        rcases Nat.lt_or_ge j (i - 1) with h | h
        · have := List.pairwise_iff_getElem.1 hs j (i - 1) (by omega) (by omega) h
          omega
        · have e : j = i - 1 := by omega
          subst e; exact hlt
      have rng : ∀ x ∈ s.take (i + 1), 0 ≤ x ∧ x ≤ B := by
        intro x hx
        rw [take_snoc s hil] at hx
        rcases List.mem_append.1 hx with hx | hx
        · exact h1 x hx
        · rw [List.mem_singleton.1 hx]; exact hr
      by_cases h0 : 0 < i
      · have wi : wrap64 ((i : Int) - 1) = ((i - 1 : Nat) : Int) := by rw [wr (by omega) (by omega)]; omega
        have hil' : i - 1 < s.length := by omega
        by_cases hle : s[i] ≤ s[i - 1]
        · rw [decide_eq_false (fun z => by
            have := List.pairwise_iff_getElem.1 z.2 (i - 1) i (by omega) (by omega) (by omega)
            omega)]
          refine Ev.step (f := fun _ => some false) (fun k => ?_) (Ev.now _)
          simp only [impl_areIncreasing.l0, rd_lt hil, within_f, Option.bind_some, if_dec, wi, rd_lt hil']
          rw [if_pos (by omega), if_pos (by omega), if_pos (by omega), if_pos hr, if_pos (by omega), if_pos (by omega), if_pos (by omega), if_pos hle]
        · refine Ev.step (fun k => ?_) (ih (i + 1) (by omega) rng (more (fun _ => by omega)))
          simp only [impl_areIncreasing.l0, rd_lt hil, within_f, Option.bind_some, if_dec, wi, rd_lt hil']
          rw [if_pos (by omega), if_pos (by omega), if_pos (by omega), if_pos hr, if_pos (by omega), if_pos (by omega), if_pos (by omega), if_neg hle, wr (n := (i : Int) + 1) (by omega) (by omega)]; rfl
      · refine Ev.step (fun k => ?_) (ih (i + 1) (by omega) rng (more (fun h => absurd h h0)))
        simp only [impl_areIncreasing.l0, rd_lt hil, within_f, Option.bind_some, if_dec]
        rw [if_pos (by omega), if_pos (by omega), if_pos (by omega), if_pos hr, if_neg (by omega), wr (n := (i : Int) + 1) (by omega) (by omega)]; rfl
    · rw [decide_eq_false (fun z => hr (z.1 _ (List.getElem_mem hil)))]
      refine Ev.step (f := fun _ => some false) (fun k => ?_) (Ev.now _)
      simp only [impl_areIncreasing.l0, rd_lt hil, within_f, Option.bind_some, if_dec]
      rw [if_pos (by omega), if_pos (by omega), if_pos (by omega), if_neg hr]
theorem isOrder_ev (n : Nat) (hn : (n : Int) ≤ 1048576) (l : List Int) (hl : (l.length : Int) ≤ 1048576) : Ev (fun k => impl_isOrder.f k l (n : Int)) (isOrd n l) := by
  unfold impl_isOrder.f
  by_cases h : (l.length : Int) = (n : Int)
  · have hz : l.length * 8 ≤ 140737488351232 := by omega
    have wn : wrap64 ((n : Int) - 1) = (n : Int) - 1 := wr (by omega) (by omega)
    simp only [if_pos h, if_pos hz, wn]
    unfold impl_areIncreasing.f
    have hp : (l.mergeSort fun x y => decide (x ≤ y)).Perm l := List.mergeSort_perm l _
    have hs : (l.mergeSort fun x y => decide (x ≤ y)).Pairwise (fun a b => a ≤ b) := by
      have z := List.pairwise_mergeSort (le := fun x y : Int => decide (x ≤ y)) (by simp; omega) (by simp; omega) l
      exact z.imp (fun h => of_decide_eq_true h)
    have hlen : (l.mergeSort fun x y => decide (x ≤ y)).length = l.length := hp.length_eq
    generalize (l.mergeSort fun x y => decide (x ≤ y)) = s at *
    refine ev_id (incr_loop ((n : Int) - 1) s hs (by omega) s.length 0 (by omega) (by simp) (by simp)) ?_
    unfold isOrd
    rw [decide_eq_decide]
    constructor
    · rintro ⟨a, b⟩
      exact ⟨by omega, fun x hx => a x (hp.mem_iff.2 hx), hp.nodup_iff.1 (b.imp (fun h => by omega))⟩
    · rintro ⟨_, a, b⟩
      refine ⟨fun x hx => a x (hp.mem_iff.1 hx), ?_⟩
      exact (hs.and (hp.nodup_iff.2 b)).imp (fun ⟨h1, h2⟩ => by omega)
  · simp only [if_neg h]
    have : isOrd n l = false := decide_eq_false (fun z => h (by omega))
    rw [this]; exact Ev.now _
/-- An order of so many numbers has each of them. -/
theorem ord_all {n : Nat} {l : List Int} (h : isOrd n l = true) (v : Nat) (hv : v < n) : (v : Int) ∈ l := by
  obtain ⟨h1, h2, h3⟩ := of_decide_eq_true h
  have hp : (l.mergeSort fun x y => decide (x ≤ y)).Perm l := List.mergeSort_perm l _
  have hs : (l.mergeSort fun x y => decide (x ≤ y)).Pairwise (fun a b => a ≤ b) := by
    have z := List.pairwise_mergeSort (le := fun x y : Int => decide (x ≤ y)) (by simp; omega) (by simp; omega) l
    exact z.imp (fun h => of_decide_eq_true h)
  generalize (l.mergeSort fun x y => decide (x ≤ y)) = s at *
  have hlt : s.Pairwise (fun a b => a < b) := (hs.and (hp.nodup_iff.2 h3)).imp (fun ⟨h1, h2⟩ => by omega)
  have hlen : s.length = n := by rw [hp.length_eq]; exact h1
  have rng : ∀ x ∈ s, 0 ≤ x ∧ x ≤ (n : Int) - 1 := fun x hx => h2 x (hp.mem_iff.1 hx)
  have step : ∀ i (h : i + 1 < s.length), s[i] + 1 ≤ s[i + 1] := fun i h => by
    have := List.pairwise_iff_getElem.1 hlt i (i + 1) (by omega) h (by omega)
    omega
  have low : ∀ i (h : i < s.length), (i : Int) ≤ s[i] := by
    intro i
    induction i with
    | zero => intro h; have := rng _ (List.getElem_mem h); omega
    | succ i ih => intro h; have := ih (by omega); have := step i h; omega
  have up : ∀ d i (h : i + d < s.length), s[i] + (d : Int) ≤ s[i + d] := by
    intro d
    induction d with
    | zero => intro i h; simp
    | succ d ih =>
      intro i h
      have a := ih i (by omega)
      have b := step (i + d) (by omega)
      have e : s[i + (d + 1)] = s[i + d + 1] := by congr 1
      rw [e]; omega
  have hvl : v < s.length := by omega
  have a := low v hvl
  have b := up (n - 1 - v) v (by omega)
  have c := rng _ (List.getElem_mem (show v + (n - 1 - v) < s.length by omega))
  have e : s[v] = (v : Int) := by omega
  exact hp.mem_iff.1 (e ▸ List.getElem_mem hvl)
/-- Where a number stands first. -/
def posn : List Int → Int → Nat
  | [], _ => 0
  | x :: l, v => if v = x then 0 else posn l v + 1
theorem posn_mem : ∀ (l : List Int) (v : Int), v ∈ l → ∃ h : posn l v < l.length, l[posn l v] = v
  | [], v, h => by simp at h
  | x :: l, v, h => by
    by_cases e : v = x
    · simp [posn, e]
    · have hm : v ∈ l := (List.mem_cons.1 h).resolve_left e
      obtain ⟨h1, h2⟩ := posn_mem l v hm
      simp only [posn, if_neg e]
      exact ⟨by simpa using h1, by simpa using h2⟩
theorem index_loop (l : List Int) (v : Int) (hl : (l.length : Int) ≤ 1048576) (d : Nat) : ∀ i : Nat, i + d = l.length → v ∈ l.drop i → Ev (fun k => slices_Index_int64_int64.l0 k l v (l.length : Int) (i : Int)) (((i + posn (l.drop i) v : Nat) : Int)) := by
  induction d with
  | zero => intro i hi h; rw [List.drop_eq_nil_of_le (by omega)] at h; simp at h
  | succ d ih =>
    intro i hi h
    have hil : i < l.length := by omega
    rw [List.drop_eq_getElem_cons hil] at h ⊢
    by_cases e : v = l[i]
    · refine Ev.step (f := fun _ => some (i : Int)) (fun k => ?_) (ev_id (Ev.now _) (by simp [posn, e]))
      simp only [slices_Index_int64_int64.l0, rd_lt hil]
      rw [if_pos (by omega), if_pos (by omega), if_pos (by omega), if_pos e]
    · have hm : v ∈ l.drop (i + 1) := (List.mem_cons.1 h).resolve_left e
      refine Ev.step (fun k => ?_) (ev_id (ih (i + 1) (by omega) hm) ?_)
      · simp only [slices_Index_int64_int64.l0, rd_lt hil]
        rw [if_pos (by omega), if_pos (by omega), if_pos (by omega), if_neg e, wr (n := (i : Int) + 1) (by omega) (by omega)]; rfl
      · simp only [posn, if_neg e]; omega
theorem index_ev (l : List Int) (v : Int) (hl : (l.length : Int) ≤ 1048576) (h : v ∈ l) : Ev (fun k => slices_Index_int64_int64.f k l v) ((posn l v : Nat) : Int) := by
  unfold slices_Index_int64_int64.f
  have := index_loop l v hl l.length 0 (by omega) (by simpa using h)
  simpa using this
/-- The first place, from j on, of a number above off; or the place behind them all. -/
def fJ (off : Int) : List Int → Nat → Nat
  | [], j => j
  | x :: L, j => if x > off then j else fJ off L (j + 1)
theorem fJ_ge (off : Int) : ∀ (L : List Int) (j : Nat), j ≤ fJ off L j ∧ fJ off L j ≤ j + L.length
  | [], j => by simp [fJ]
  | x :: L, j => by
    have h := fJ_ge off L (j + 1)
    simp only [fJ, List.length_cons]
    split <;> omega
theorem idxO_eq (off : Int) : ∀ (L : List Int) (j : Nat), idxO (fun x => impl_FewestForOrder_1.f x off) L (j : Int) = some (if fJ off L j < j + L.length then ((fJ off L j : Nat) : Int) else -1)
  | [], j => by simp [fJ, idxO]
  | x :: L, j => by
    have ih := idxO_eq off L (j + 1)
    show ((impl_FewestForOrder_1.f x off).bind fun b => if b = true then some (j : Int) else idxO (fun x => impl_FewestForOrder_1.f x off) L ((j : Int) + 1)) = _
    have e0 : impl_FewestForOrder_1.f x off = some (decide (x > off)) := rfl
    simp only [e0, Option.bind_some, if_dec, fJ, List.length_cons]
    by_cases h : x > off
    · simp only [if_pos h]
      rw [if_pos (by omega)]
    · simp only [if_neg h]
      have e : (j : Int) + 1 = ((j + 1 : Nat) : Int) := by omega
      rw [e, ih]
      have e2 : j + 1 + L.length = j + (L.length + 1) := by omega
      rw [e2]
/-- What the program does behind a strand's place. -/
def impl_FewestForOrder_next (k : Nat) (x0 x5 x6 : List Int) (x21 x22 t170 : Int) : Option (List Int × Int × Int) := (slices_IndexFunc_int_int.f x5 (fun x_ => impl_FewestForOrder_1.f x_ t170)).bind fun t172 => (if t172 < 0 then (if x5.length < 17592186044416 then ((some (x5 ++ [0] : List Int)).bind fun y173 => (if 0 ≤ (x5.length : Int) then (if (x5.length : Int) < (y173.length : Int) then (if x6.length < 17592186044416 then (impl_FewestForOrder.l0 k x0 (y173.set ((x5.length : Int) : Int).toNat t170) (x6 ++ [(x5.length : Int)]) x21 (wrap64 (x22 + 1))) else (none)) else (none)) else (none))) else (none)) else (if 0 ≤ t172 then (if t172 < (x5.length : Int) then (if x6.length < 17592186044416 then (impl_FewestForOrder.l0 k x0 (x5.set (t172 : Int).toNat t170) (x6 ++ [t172]) x21 (wrap64 (x22 + 1))) else (none)) else (none)) else (none)))
/-- The rows' ends behind one number more. -/
def ends (off : Int) (L : List Int) : List Int := if fJ off L 0 < L.length then L.set (fJ off L 0) off else L ++ [off]
theorem wsucc (n : Nat) (h : n ≤ 8) : wrap64 ((n : Int) + 1) = ((n + 1 : Nat) : Int) := by rw [wr (by omega) (by omega)]; omega
theorem when_loop (O : List Int) (hO : O.length ≤ 8) (hr : ∀ x ∈ O, 0 ≤ x ∧ x < (O.length : Int)) (hd : O.Nodup) (R : List Int × Int × Int) (next : ∀ W : List Int, W.length = O.length → (∀ j (h : j < O.length), rd W O[j] = (j : Int)) → Ev (fun k => spec_FewestForOrder.l1 k O W [] [] 0) R) (d : Nat) : ∀ (i : Nat) (W : List Int), i + d = O.length → W.length = O.length → (∀ j (h : j < O.length), j < i → rd W O[j] = (j : Int)) →
    Ev (fun k => spec_FewestForOrder.l0 k O W (i : Int)) R := by
  induction d with
  | zero =>
    intro i W hi hW h
    refine Ev.step (fun k => ?_) (next W hW (fun j hj => h j hj (by omega)))
    simp only [spec_FewestForOrder.l0]; rw [if_neg (by omega)]
  | succ d ih =>
    intro i W hi hW h
    have hil : i < O.length := by omega
    have ri := hr O[i] (List.getElem_mem hil)
    refine Ev.step (fun k => ?_) (ih (i + 1) (W.set O[i].toNat (i : Int)) (by omega) (by simpa using hW) ?_)
    · simp only [spec_FewestForOrder.l0, rd_lt hil]
      rw [if_pos (by omega), if_pos (by omega), if_pos (by omega), if_pos (by omega), wr (n := (i : Int) + 1) (by omega) (by omega)]; rfl
    · intro j hj hji
      have rj := hr O[j] (List.getElem_mem hj)
      unfold rd
      rw [List.getD_eq_getElem?_getD, List.getElem?_set]
      by_cases e : j = i
      · subst e
        rw [if_pos rfl, if_pos (by omega)]; rfl
      · have hne : ¬ O[i].toNat = O[j].toNat := by
          intro e2
          have e3 : O[i] = O[j] := by omega
          have := (List.pairwise_iff_getElem.1 hd) 
          rcases Nat.lt_or_ge j i with hlt | hge
          · exact this j i hj hil hlt e3.symm
          · omega
        rw [if_neg hne, ← List.getD_eq_getElem?_getD]
        exact h j hj (by omega)
section
variable (O W : List Int) (hO : O.length ≤ 8) (hW : W.length = O.length)
include hO hW
theorem at_loop (out L : List Int) (i : Nat) (hi : i < O.length) (off : Int) (hoff : rd W (i : Int) = off) (hL : L.length ≤ i) (hout : out.length ≤ i) (hne : ∀ x ∈ L, x ≠ off) (R : List Int × Int × Int) (d : Nat) : ∀ j : Nat, j + d = L.length →
    Ev (fun k => spec_FewestForOrder.l1 k O W (out ++ [((fJ off (L.drop j) j : Nat) : Int)]) (if fJ off (L.drop j) j < L.length then L.set (fJ off (L.drop j) j) off else L ++ [off]) ((i + 1 : Nat) : Int)) R →
    Ev (fun k => spec_FewestForOrder.l2 k O W out L (i : Int) (j : Int)) R := by
  have hi8 : i ≤ 8 := by omega
  induction d with
  | zero =>
    intro j hj h
    have : j = L.length := by omega
    subst this
    have e0 : (if fJ off (L.drop L.length) L.length < L.length then L.set (fJ off (L.drop L.length) L.length) off else L ++ [off]) = L ++ [off] := by
      rw [List.drop_eq_nil_of_le (by omega)]
      exact if_neg (by show ¬ L.length < L.length; omega)
    have e1 : fJ off (L.drop L.length) L.length = L.length := by rw [List.drop_eq_nil_of_le (by omega)]; rfl
    rw [e0, e1] at h
    clear e0 e1
    refine Ev.step (fun k => ?_) h
    simp only [spec_FewestForOrder.l2, hoff, Option.bind_some, wsucc i hi8]
    have hlen : (L.length : Int) < ((L ++ [off]).length : Int) := by simp; omega
    have hset : (L ++ [off]).set (L.length : Int).toNat off = L ++ [off] := by
      rw [Int.toNat_natCast, List.set_append_right _ _ (by omega)]; simp
    rw [if_neg (by omega), if_pos trivial, if_pos (by omega), if_pos (by omega), if_pos (by omega), if_pos (by omega), if_pos hlen, if_pos (by omega), hset]
  | succ d ih =>
    intro j hj h
    have hjl : j < L.length := by omega
    have d0 : L.drop j = L[j] :: L.drop (j + 1) := List.drop_eq_getElem_cons hjl
    have hj8 : j ≤ 8 := by omega
    have n0 := hne L[j] (List.getElem_mem hjl)
    by_cases e : L[j] > off
    · have e1 : fJ off (L.drop j) j = j := by rw [d0]; exact if_pos e
      rw [e1, if_pos hjl] at h
      clear e1 d0 ih
      refine Ev.step (fun k => ?_) h
      have g1 : (j : Int) < (L.length : Int) := by omega
      have g2 : (0 : Int) ≤ (j : Int) := by omega
      have g3 : (0 : Int) ≤ (i : Int) := by omega
      have g4 : (i : Int) < (W.length : Int) := by omega
      have g5 : ¬ L[j] < off := by omega
      have g6 : ¬ (j : Int) = (L.length : Int) := by omega
      have g7 : out.length < 17592186044416 := by omega
      simp only [spec_FewestForOrder.l2, hoff, rd_lt hjl, wsucc i hi8, if_pos g1, if_pos g2, if_pos g3, if_pos g4, if_neg g5, if_neg g6, if_pos g7, Int.toNat_natCast]
    · have e1 : fJ off (L.drop j) j = fJ off (L.drop (j + 1)) (j + 1) := by rw [d0]; exact if_neg e
      rw [e1] at h
      clear e1 d0
      refine Ev.step (fun k => ?_) (ih (j + 1) (by omega) h)
      clear h ih
      have g1 : (j : Int) < (L.length : Int) := by omega
      have g2 : (0 : Int) ≤ (j : Int) := by omega
      have g3 : (0 : Int) ≤ (i : Int) := by omega
      have g4 : (i : Int) < (W.length : Int) := by omega
      have g5 : L[j] < off := by omega
      simp only [spec_FewestForOrder.l2, hoff, rd_lt hjl, wsucc j hj8, if_pos g1, if_pos g2, if_pos g3, if_pos g4, if_pos g5]
theorem few_loop (hv : ∀ v : Nat, v < O.length → (v : Int) ∈ O) (hw : ∀ v : Nat, v < O.length → rd W (v : Int) = ((posn O (v : Int) : Nat) : Int)) (d : Nat) : ∀ (i : Nat) (out L : List Int), i + d = O.length → L.length ≤ i → out.length = i → (∀ x ∈ L, ∃ j : Nat, j < i ∧ x = ((posn O (j : Int) : Nat) : Int)) →
    ∃ r : List Int × Int × Int, Ev (fun k => spec_FewestForOrder.l1 k O W out L (i : Int)) r ∧ Ev (fun k => impl_FewestForOrder.l0 k O L out (O.length : Int) (i : Int)) r ∧ r.1.length ≤ 8 := by
  induction d with
  | zero =>
    intro i out L hi hL ho hx
    refine ⟨(out, (L.length : Int), 0), Ev.step (f := fun _ => some (out, (L.length : Int), 0)) (fun k => ?_) (Ev.now _), Ev.step (f := fun _ => some (out, (L.length : Int), 0)) (fun k => ?_) (Ev.now _), by simp only; omega⟩
    · simp only [spec_FewestForOrder.l1]; rw [if_neg (by omega)]
    · simp only [impl_FewestForOrder.l0]; rw [if_neg (by omega)]; rfl
  | succ d ih =>
    intro i out L hi hL ho hx
    have hil : i < O.length := by omega
    have hi8 : i ≤ 8 := by omega
    have ix := index_ev O (i : Int) (by omega) (hv i hil)
    have hwi := hw i hil
    obtain ⟨p1, p2⟩ := posn_mem O (i : Int) (hv i hil)
    have hne : ∀ x ∈ L, x ≠ ((posn O (i : Int) : Nat) : Int) := by
      intro x hxm e
      obtain ⟨j, hj, e2⟩ := hx x hxm
      obtain ⟨q1, q2⟩ := posn_mem O (j : Int) (hv j (by omega))
      have e3 : posn O (j : Int) = posn O (i : Int) := by omega
      have e4 : (j : Int) = (i : Int) := by
        rw [← q2, ← p2]
        congr 1
      omega
    generalize hoff : ((posn O (i : Int) : Nat) : Int) = off at *
    have S : ∀ R, Ev (fun k => spec_FewestForOrder.l1 k O W (out ++ [((fJ off L 0 : Nat) : Int)]) (ends off L) ((i + 1 : Nat) : Int)) R → Ev (fun k => spec_FewestForOrder.l1 k O W out L (i : Int)) R := by
      intro R h
      have z := at_loop O W hO hW out L i hil off hwi hL (by omega) hne R L.length 0 (by omega)
      rw [List.drop_zero] at z
      refine Ev.step (fun k => ?_) (z h)
      simp only [spec_FewestForOrder.l1]; rw [if_pos (by omega)]; rfl
    have fg := fJ_ge off L 0
    have q : slices_IndexFunc_int_int.f L (fun x_ => impl_FewestForOrder_1.f x_ off) = some (if fJ off L 0 < L.length then ((fJ off L 0 : Nat) : Int) else -1) := by
      show idxG L _ = _
      unfold idxG
      have cl : (L.length : Int) ≤ 4611686018427387904 := by omega
      rw [if_pos cl]
      have z := idxO_eq off L 0
      simpa using z
    have hx' : ∀ x ∈ ends off L, ∃ j : Nat, j < i + 1 ∧ x = ((posn O (j : Int) : Nat) : Int) := by
      intro x hxm
      have : x ∈ L ∨ x = off := by
        unfold ends at hxm
        split at hxm
        · exact List.mem_or_eq_of_mem_set hxm
        · simpa using hxm
      rcases this with hm | rfl
      · obtain ⟨j, hj, e⟩ := hx x hm
        exact ⟨j, by omega, e⟩
      · exact ⟨i, by omega, hoff.symm⟩
    have hlen : (ends off L).length ≤ i + 1 := by
      unfold ends
      split
      · simp; omega
      · simp; omega
    obtain ⟨r, e1, e2, e3⟩ := ih (i + 1) (out ++ [((fJ off L 0 : Nat) : Int)]) (ends off L) (by omega) hlen (by simp; omega) hx'
    refine ⟨r, S r e1, ?_, e3⟩
    refine Ev.step (f := fun k => (slices_Index_int64_int64.f k O (i : Int)).bind fun t170 => impl_FewestForOrder_next k O L out (O.length : Int) (i : Int) t170) (fun k => ?_) (Ev.bind ix ?_)
    · simp only [impl_FewestForOrder.l0]; rw [if_pos (by omega)]; rfl
    · unfold impl_FewestForOrder_next
      simp only [q, Option.bind_some, wsucc i hi8]
      by_cases hf : fJ off L 0 < L.length
      · have he : ends off L = L.set (fJ off L 0) off := by unfold ends; rw [if_pos hf]
        rw [he] at e2
        simp only [if_pos hf]
        have g1 : ¬ ((fJ off L 0 : Nat) : Int) < 0 := by omega
        have g2 : (0 : Int) ≤ ((fJ off L 0 : Nat) : Int) := by omega
        have g3 : ((fJ off L 0 : Nat) : Int) < (L.length : Int) := by omega
        have g4 : out.length < 17592186044416 := by omega
        simp only [if_neg g1, if_pos g2, if_pos g3, if_pos g4, Int.toNat_natCast]
        exact e2
      · have hJ : fJ off L 0 = L.length := by omega
        have he : ends off L = L ++ [off] := by unfold ends; rw [if_neg hf]
        rw [he, hJ] at e2
        simp only [if_neg hf]
        have g1 : (-1 : Int) < 0 := by omega
        have g2 : L.length < 17592186044416 := by omega
        have g3 : (0 : Int) ≤ (L.length : Int) := by omega
        have g4 : (L.length : Int) < ((L ++ [(0 : Int)]).length : Int) := by simp; omega
        have g5 : out.length < 17592186044416 := by omega
        have hset : (L ++ [(0 : Int)]).set (L.length : Int).toNat off = L ++ [off] := by
          rw [Int.toNat_natCast, List.set_append_right _ _ (by omega)]; simp
        simp only [if_pos g1, if_pos g2, if_pos g3, if_pos g4, if_pos g5, hset]
        exact e2
end
theorem few_same (O : List Int) (hO : (O.length : Int) ≤ 1048576) : ∃ r : List Int × Int × Int, Ev (fun k => spec_FewestForOrder.f k O) r ∧ Ev (fun k => impl_FewestForOrder.f k O) r ∧ r.1.length ≤ 8 := by
  unfold spec_FewestForOrder.f impl_FewestForOrder.f
  by_cases h8 : (O.length : Int) > 8
  · refine ⟨([], 0, 3), ?_, ?_, by simp⟩
    · simp only [if_pos h8]; exact Ev.now _
    · simp only [if_pos h8]; exact Ev.now _
  · simp only [if_neg h8]
    have s := each_ev O.length hO O (by omega)
    have i := isOrder_ev O.length hO O hO
    cases ho : isOrd O.length O with
    | false =>
      rw [ho] at s i
      exact ⟨([], 0, 4), Ev.bind s (by simp only [Bool.false_eq_true, if_false]; exact Ev.now _), Ev.bind i (by simp only [Bool.false_eq_true, if_false]; exact Ev.now _), by simp⟩
    | true =>
      rw [ho] at s i
      obtain ⟨_, h2, h3⟩ := of_decide_eq_true ho
      have hv : ∀ v : Nat, v < O.length → (v : Int) ∈ O := fun v h => ord_all ho v h
      have key : ∀ W : List Int, W.length = O.length → (∀ j (h : j < O.length), rd W O[j] = (j : Int)) → ∀ v : Nat, v < O.length → rd W (v : Int) = ((posn O (v : Int) : Nat) : Int) := by
        intro W _ hw v hvl
        obtain ⟨p1, p2⟩ := posn_mem O (v : Int) (hv v hvl)
        have := hw _ p1
        rw [p2] at this; exact this
      -- the answer, told by the program's own walk
      obtain ⟨W0, hW0, hk0⟩ : ∃ W : List Int, W.length = O.length ∧ ∀ j (h : j < O.length), rd W O[j] = (j : Int) := by
        refine ⟨(List.range O.length).map (fun (v : Nat) => ((posn O (v : Int) : Nat) : Int)), by simp, ?_⟩
        intro j hj
        have rj := h2 O[j] (List.getElem_mem hj)
        obtain ⟨v, hv'⟩ := Int.eq_ofNat_of_zero_le rj.1
        rw [hv']
        have hvl : v < ((List.range O.length).map (fun (v : Nat) => ((posn O (v : Int) : Nat) : Int))).length := by simp; omega
        rw [rd_lt hvl]
        simp only [List.getElem_map, List.getElem_range]
        obtain ⟨p1, p2⟩ := posn_mem O (v : Int) (hv v (by simpa using hvl))
        have e : O[posn O (v : Int)] = O[j] := by rw [p2, hv']
        have hp := List.pairwise_iff_getElem.1 h3
        rcases Nat.lt_trichotomy (posn O (v : Int)) j with h | h | h
        · exact absurd e (hp _ _ p1 hj h)
        · rw [h]
        · exact absurd e.symm (hp _ _ hj p1 h)
      obtain ⟨r, _, e2, e3⟩ := few_loop O W0 (by omega) hW0 hv (key W0 hW0 hk0) O.length 0 [] [] (by omega) (by simp) (by simp) (by simp)
      have e1 : ∀ W : List Int, W.length = O.length → (∀ j (h : j < O.length), rd W O[j] = (j : Int)) → Ev (fun k => spec_FewestForOrder.l1 k O W [] [] 0) r := by
        intro W hW hk
        obtain ⟨r', f1, f2, _⟩ := few_loop O W (by omega) hW hv (key W hW hk) O.length 0 [] [] (by omega) (by simp) (by simp) (by simp)
        have : r' = r := ev_fun f2 e2
        rw [this] at f1; exact f1
      refine ⟨r, Ev.bind s ?_, Ev.bind i ?_, e3⟩
      · simp only [if_true]
        have c0 : (0 : Int) ≤ (O.length : Int) := by omega
        have c1 : (O.length : Int).toNat ≤ 35184372088832 := by omega
        rw [Int.toNat_natCast] at c1
        simp only [if_pos c0, Int.toNat_natCast, if_pos c1]
        exact when_loop O (by omega) (fun x hx => by have := h2 x hx; omega) h3 r e1 O.length 0 (List.replicate O.length 0) (by omega) (by simp) (by intro j _ h; omega)
      · simp only [if_true]
        have e : impl_length_int64.f O = some (O.length : Int) := rfl
        simp only [e, Option.bind_some]
        exact e2
theorem FnExactFewestForOrder : laws_FnExactFewestForOrder.Pure := by
  intro l ⟨hl, hs⟩
  refine Ev.rounds ?_
  unfold laws_FnExactFewestForOrder.f
  by_cases hL : (l.length : Int) > 1048576
  · simp only [if_pos hL]; exact Ev.now _
  · simp only [if_neg hL]
    have ht := toInt64S_ev l (by omega)
    obtain ⟨⟨w, y, c⟩, f1, f2, fl⟩ := few_same l (by omega)
    have hw : (w.length : Int) ≤ 4611686018427387904 := by simp only at fl; omega
    obtain ⟨s, m1, m2⟩ := markInt64S_ev w hw
    obtain ⟨s', n1⟩ := markInt64S_from l 1 (by omega) (by omega) (by omega)
    have hneg1 : ¬ (1 + (l.length : Int) < 0) := by omega
    have hneg2 : ¬ (1 + (w.length : Int) < 0) := by omega
    refine Ev.bind ht (Ev.bind f1 (Ev.bind ht (Ev.bind f2 (Ev.bind (eqInt64S_self w hw) ?_))))
    simp only [if_true, bne_self_eq_false]
    refine Ev.step (fun k => by simp only [laws_FnExactFewestForOrder.j0, Bool.false_eq_true, if_false]; rfl) (Ev.bind ht (Ev.bind (eqInt64S_self l (by omega)) ?_))
    simp only [if_true]
    refine Ev.bind n1 ?_
    simp only [if_neg hneg1]
    refine Ev.bind (eqInt64S_self w hw) ?_
    simp only [if_true, bne_self_eq_false]
    refine Ev.step (fun k => by simp only [laws_FnExactFewestForOrder.j1, Bool.false_eq_true, if_false]; rfl) (Ev.bind m1 (Ev.bind m2 ?_))
    simp only [if_neg hneg2, if_true]
    refine Ev.bind ht (Ev.bind f2 (Ev.bind (eqInt64S_self w hw) ?_))
    simp only [if_true, bne_self_eq_false]
    refine Ev.step (fun k => by simp only [laws_FnExactFewestForOrder.j2, Bool.false_eq_true, if_false]; rfl) (Ev.bind m2 ?_)
    simp only [if_neg hneg2, if_true]; exact Ev.now _
end Go.Proofs.Ytjhafhejdlmcmaa.Pure
