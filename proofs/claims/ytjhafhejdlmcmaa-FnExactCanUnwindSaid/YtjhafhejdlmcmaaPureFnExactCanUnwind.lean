/- The program's CanUnwind and the reference's give the same answer at all reels and orders; no conditions. -/
import Derived.Test.YtjhafhejdlmcmaaXFnExactCanUnwindx4
namespace Go.Proofs.Ytjhafhejdlmcmaa.Pure
open Go.RowKit Go.Proofs.Ytjhafhejdlmcmaa.XFnExactCanUnwind Go.Proofs.YtjhafhejdlmcmaaW.PrintWords Go.Proofs.YtjhafhejdlmcmaaW.PrintLast
set_option linter.unusedVariables false
set_option linter.unusedSimpArgs false
theorem wr {n : Int} (h0 : -9223372036854775808 ≤ n) (h1 : n ≤ 9223372036854775807) : wrap64 n = n := by
  unfold wrap64; omega
theorem wf64 {a : Int} (h : (Lit.int .i64 a).wf = true) : -9223372036854775808 ≤ a ∧ a ≤ 9223372036854775807 := by
  simp only [Lit.wf, IntKind.min, IntKind.max, IntKind.signed, IntKind.bits, Bool.and_eq_true, decide_eq_true_eq, if_true] at h
  omega
theorem ev_id {α : Type} {g : Nat → Option α} {r s : α} (h : Ev g r) (e : r = s) : Ev g s := e ▸ h
theorem ev_const {α : Type} {o : Option α} {r : α} (h : o = some r) : Ev (fun _ => o) r := ⟨0, fun _ _ => h⟩
theorem ev_fun {α : Type} {g : Nat → Option α} {r s : α} (h : Ev g r) (k : Ev g s) : r = s := by
  obtain ⟨a, h⟩ := h
  obtain ⟨b, k⟩ := k
  have x := h (max a b) (by omega)
  have y := k (max a b) (by omega)
  rw [x] at y; exact Option.some.inj y
/-- Both come to one answer. -/
def Same {α : Type} (g f : Nat → Option α) : Prop := ∃ r, Ev g r ∧ Ev f r
theorem Same.step {α : Type} {g f g' f' : Nat → Option α} (hg : ∀ k, g (k + 1) = g' k) (hf : ∀ k, f (k + 1) = f' k) (h : Same g' f') : Same g f := by
  obtain ⟨r, a, b⟩ := h
  exact ⟨r, Ev.step hg a, Ev.step hf b⟩
theorem Same.left {α : Type} {g f g' : Nat → Option α} (hg : ∀ k, g (k + 1) = g' k) (h : Same g' f) : Same g f := by
  obtain ⟨r, a, b⟩ := h
  exact ⟨r, Ev.step hg a, b⟩
theorem Same.right {α : Type} {g f f' : Nat → Option α} (hf : ∀ k, f (k + 1) = f' k) (h : Same g f') : Same g f := by
  obtain ⟨r, a, b⟩ := h
  exact ⟨r, a, Ev.step hf b⟩
theorem Same.now {α : Type} (r : α) : Same (fun _ => some r) (fun _ => some r) := ⟨r, Ev.now r, Ev.now r⟩
theorem if_dec {α : Type} {p : Prop} [Decidable p] (a b : α) : (if decide p = true then a else b) = if p then a else b := by
  by_cases h : p <;> simp [h]
theorem w00 : wrap64 0 = 0 := wr (by omega) (by omega)
theorem l00In_f (a b c : Int) : spec_l00In.f a b c = some (decide (b ≤ a ∧ a ≤ c)) := by
  unfold spec_l00In.f
  by_cases h : b ≤ a <;> simp [h]
theorem within_f (a b c : Int) : impl_within.f a b c = some (decide (b ≤ a ∧ a ≤ c)) := by
  unfold impl_within.f
  by_cases h : b ≤ a <;> simp [h]
theorem rd_lt {l : List Int} {i : Nat} (h : i < l.length) : rd l (i : Int) = l[i] := by
  unfold rd; simp [List.getD, h]
theorem eqInt64S_loop (a b : List Int) (hab : a.length = b.length) (hn : (a.length : Int) ≤ 4611686018427387904) (d : Nat) : ∀ (i : Nat), i ≤ a.length → a.length - i = d →
    Ev (fun k => laws_eqInt64S.l0 k a b (i : Int)) (decide (a.drop i = b.drop i)) := by
  induction d with
  | zero =>
    intro i hi hd
    refine Ev.step (f := fun _ => some (decide (a.drop i = b.drop i))) (fun k => ?_) (Ev.now _)
    simp only [laws_eqInt64S.l0]
    rw [if_neg (by omega), List.drop_eq_nil_of_le (by omega), List.drop_eq_nil_of_le (by omega)]; simp
  | succ d ih =>
    intro i hi hd
    have ha : i < a.length := by omega
    have hb : i < b.length := by omega
    by_cases e : a[i] = b[i]
    · refine Ev.step (fun k => ?_) (ev_id (ih (i + 1) (by omega) (by omega)) ?_)
      · simp only [laws_eqInt64S.l0]
        rw [if_pos (by omega), if_pos (by omega), if_pos (by omega), rd_lt ha, rd_lt hb, if_pos e, wr (by omega) (by omega)]; rfl
      · simp only [List.drop_eq_getElem_cons ha, List.drop_eq_getElem_cons hb, List.cons.injEq, e, true_and]
    · refine Ev.step (f := fun _ => some false) (fun k => ?_) (ev_id (Ev.now _) ?_)
      · simp only [laws_eqInt64S.l0]
        rw [if_pos (by omega), if_pos (by omega), if_pos (by omega), rd_lt ha, rd_lt hb, if_neg e]
      · simp only [List.drop_eq_getElem_cons ha, List.drop_eq_getElem_cons hb, List.cons.injEq, e, false_and, decide_false]
theorem eqInt64S_ev (a b : List Int) (hn : (a.length : Int) ≤ 4611686018427387904) : Ev (fun k => laws_eqInt64S.f k a b) (decide (a = b)) := by
  unfold laws_eqInt64S.f
  by_cases h : a.length = b.length
  · simp only [h, if_true]
    simpa using eqInt64S_loop a b h hn a.length 0 (by omega) (by omega)
  · have h' : ¬ (a.length : Int) = b.length := by omega
    simp only [if_neg h']
    have : a ≠ b := fun e => h (by rw [e])
    simpa [this] using Ev.now false
theorem eqInt64S_self (a : List Int) (hn : (a.length : Int) ≤ 4611686018427387904) : Ev (fun k => laws_eqInt64S.f k a a) true := by
  simpa using eqInt64S_ev a a hn
theorem toInt64S_loop (l : List Int) (hl : (l.length : Int) ≤ 140737488351232) (d : Nat) : ∀ (out rest : List Int) (i : Nat), out.length = i → rest.length = d → i + d = l.length →
    Ev (fun k => laws_toInt64S.l0 k l (out ++ rest) (i : Int)) (out ++ l.drop i) := by
  induction d with
  | zero =>
    intro out rest i ho hr hi
    refine Ev.step (f := fun _ => some (out ++ l.drop i)) (fun k => ?_) (Ev.now _)
    simp only [laws_toInt64S.l0]
    rw [if_neg (by omega), List.drop_eq_nil_of_le (by omega), List.length_eq_zero_iff.1 hr]
  | succ d ih =>
    intro out rest i ho hr hi
    have hil : i < l.length := by omega
    obtain ⟨y, rest, rfl⟩ : ∃ y r, rest = y :: r := by cases rest with | nil => simp at hr | cons y r => exact ⟨y, r, rfl⟩
    refine Ev.step (fun k => ?_) (ev_id (ih (out ++ [l[i]]) rest (i + 1) (by simp; omega) (by simpa using hr) (by omega)) ?_)
    · simp only [laws_toInt64S.l0]
      rw [if_pos (by omega), if_pos (by omega), if_pos (by simp; omega), rd_lt hil, wr (n := (i : Int) + 1) (by omega) (by omega)]
      have : (out ++ y :: rest).set (i : Int).toNat l[i] = out ++ [l[i]] ++ rest := by
        rw [Int.toNat_natCast, List.set_append_right _ _ (by omega), ho]; simp
      rw [this]; rfl
    · rw [List.drop_eq_getElem_cons hil]; simp only [List.append_assoc, List.cons_append, List.nil_append]
theorem toInt64S_ev (l : List Int) (hl : (l.length : Int) ≤ 35184372088832) : Ev (fun k => laws_toInt64S.f k l) l := by
  unfold laws_toInt64S.f
  have h0 : (0 : Int) ≤ (l.length : Int) := by omega
  have h1 : ((l.length : Int) : Int).toNat ≤ 35184372088832 := by omega
  simp only [if_pos h0, if_pos h1]
  have := toInt64S_loop l (by omega) l.length [] (List.replicate l.length 0) 0 rfl (by simp) (by omega)
  simpa using this
theorem allO_some {α : Type} (p : α → Bool) : ∀ l : List α, allO (fun x => some (p x)) l = some (l.all p)
  | [] => rfl
  | x :: l => by
    simp only [allO, Option.bind_some, List.all_cons, allO_some p l]
    cases p x <;> simp
theorem allG_some {α : Type} (p : α → Bool) (l : List α) (h : (l.length : Int) ≤ 4611686018427387904) : allG l (fun x => some (p x)) = some (l.all p) := by
  unfold allG; rw [if_pos h, allO_some]
def isR (x : Int) : Bool := decide (0 ≤ x ∧ x ≤ 7)
/-- The code for the numbers of reels. -/
def toldC (l : List Int) : Int := if (l.length : Int) > 8 then 3 else if l.all isR = true then 0 else 2
theorem told_loop (l : List Int) (hl : (l.length : Int) ≤ 140737488351232) (d : Nat) : ∀ (i : Nat), i + d = l.length → Ev (fun k => spec_l04Told.l0 k l (i : Int)) (if (l.drop i).all isR = true then 0 else 2) := by
  induction d with
  | zero =>
    intro i hi
    refine Ev.step (f := fun _ => some 0) (fun k => ?_) (ev_id (Ev.now _) ?_)
    · simp only [spec_l04Told.l0]; rw [if_neg (by omega)]
    · rw [List.drop_eq_nil_of_le (by omega)]; rfl
  | succ d ih =>
    intro i hi
    have hil : i < l.length := by omega
    rw [List.drop_eq_getElem_cons hil, List.all_cons]
    by_cases h1 : 0 ≤ l[i] ∧ l[i] ≤ 7
    · refine Ev.step (fun k => ?_) (ev_id (ih (i + 1) (by omega)) (by rw [show isR l[i] = true from decide_eq_true h1, Bool.true_and]))
      simp only [spec_l04Told.l0, spec_l04Number.f, rd_lt hil, l00In_f, Option.bind_some, if_dec]
      rw [if_pos (by omega), if_pos (by omega), if_pos h1, wr (n := (i : Int) + 1) (by omega) (by omega)]; rfl
    · refine Ev.step (f := fun _ => some 2) (fun k => ?_) (ev_id (Ev.now _) (by rw [show isR l[i] = false from decide_eq_false h1, Bool.false_and]; rfl))
      simp only [spec_l04Told.l0, spec_l04Number.f, rd_lt hil, l00In_f, Option.bind_some, if_dec]
      rw [if_pos (by omega), if_pos (by omega), if_neg h1]
theorem told_ev (l : List Int) (hl : (l.length : Int) ≤ 140737488351232) : Ev (fun k => spec_l04Told.f k l) (toldC l) := by
  unfold spec_l04Told.f toldC
  by_cases h : (l.length : Int) > 8
  · simp only [if_pos h]; exact Ev.now _
  · simp only [if_neg h]
    have := told_loop l hl l.length 0 (by omega)
    simpa using this
theorem isR_f (x : Int) : impl_isReel.f x = some (isR x) := by
  unfold impl_isReel.f isR; rw [within_f]; rfl
theorem unwindCode_f (l : List Int) (hl : (l.length : Int) ≤ 140737488351232) : impl_unwindCode.f l = some (toldC l) := by
  unfold impl_unwindCode.f toldC
  by_cases h : (l.length : Int) > 8
  · simp only [if_pos h]
  · simp only [if_neg h]
    have e : (fun x_ : Int => impl_isReel.f x_) = fun x => some (isR x) := funext isR_f
    show (allG l _).bind _ = _
    rw [e, allG_some isR l (by omega)]
    cases l.all isR <;> rfl
/-- All of so many numbers, each once. -/
def isOrd (n : Nat) (l : List Int) : Bool := decide (l.length = n ∧ (∀ x ∈ l, 0 ≤ x ∧ x ≤ (n : Int) - 1) ∧ l.Nodup)
theorem has_loop (l : List Int) (x : Int) (hl : (l.length : Int) ≤ 140737488351232) (d : Nat) : ∀ (i : Nat), i + d = l.length → Ev (fun k => spec_l00Has.l0 k l x (i : Int)) (decide (x ∈ l.drop i)) := by
  induction d with
  | zero =>
    intro i hi
    refine Ev.step (f := fun _ => some false) (fun k => ?_) (ev_id (Ev.now _) ?_)
    · simp only [spec_l00Has.l0]; rw [if_neg (by omega)]
    · rw [List.drop_eq_nil_of_le (by omega)]; simp
  | succ d ih =>
    intro i hi
    have hil : i < l.length := by omega
    rw [List.drop_eq_getElem_cons hil]
    by_cases h : l[i] = x
    · refine Ev.step (f := fun _ => some true) (fun k => ?_) (ev_id (Ev.now _) (by simp [h]))
      simp only [spec_l00Has.l0, rd_lt hil]
      rw [if_pos (by omega), if_pos (by omega), if_pos h]
    · refine Ev.step (fun k => ?_) (ev_id (ih (i + 1) (by omega)) (by rw [decide_eq_decide, List.mem_cons]; exact ⟨Or.inr, fun z => z.resolve_left (fun e => h e.symm)⟩))
      simp only [spec_l00Has.l0, rd_lt hil]
      rw [if_pos (by omega), if_pos (by omega), if_neg h, wr (n := (i : Int) + 1) (by omega) (by omega)]; rfl
theorem has_ev (l : List Int) (x : Int) (hl : (l.length : Int) ≤ 140737488351232) : Ev (fun k => spec_l00Has.f k l x) (decide (x ∈ l)) := by
  unfold spec_l00Has.f
  have := has_loop l x hl l.length 0 (by omega)
  simpa using this
theorem take_snoc (l : List Int) {i : Nat} (h : i < l.length) : l.take (i + 1) = l.take i ++ [l[i]] := by
  rw [List.take_add_one, List.getElem?_eq_getElem h]; rfl
theorem each_loop (n : Nat) (hn : (n : Int) ≤ 1048576) (l : List Int) (hl : (l.length : Int) ≤ 140737488351232) (d : Nat) : ∀ (i : Nat), i + d = l.length → (∀ x ∈ l.take i, 0 ≤ x ∧ x ≤ (n : Int) - 1) → (l.take i).Nodup → Ev (fun k => spec_l04Each.l0 k (n : Int) l (i : Int)) (isOrd n l) := by
  induction d with
  | zero =>
    intro i hi h1 h2
    have : i = l.length := by omega
    subst this
    rw [List.take_length] at h1 h2
    refine Ev.step (f := fun _ => some ((l.length : Int) == (n : Int))) (fun k => ?_) (ev_id (Ev.now _) ?_)
    · simp only [spec_l04Each.l0]; rw [if_neg (by omega)]
    · unfold isOrd
      by_cases e : l.length = n
      · rw [decide_eq_true ⟨e, h1, h2⟩, e]; simp
      · rw [decide_eq_false (fun z => e z.1)]
        exact beq_eq_false_iff_ne.mpr (by omega)
  | succ d ih =>
    intro i hi h1 h2
    have hil : i < l.length := by omega
    have wn : wrap64 ((n : Int) - 1) = (n : Int) - 1 := wr (by omega) (by omega)
    by_cases hr : 0 ≤ l[i] ∧ l[i] ≤ (n : Int) - 1
    · have hh := has_ev (l.take i) l[i] (by rw [List.length_take]; omega)
      by_cases hm : l[i] ∈ l.take i
      · rw [decide_eq_true hm] at hh
        have : isOrd n l = false := decide_eq_false (fun z => by
          have q := z.2.2
          rw [← List.take_append_drop (i + 1) l, take_snoc l hil] at q
          have q2 := (List.nodup_append.1 (List.nodup_append.1 q).1).2.2 _ hm l[i] (by simp)
          exact q2 rfl)
        rw [this]
        refine Ev.step (f := fun k => (spec_l00Has.f k (l.take i) l[i]).bind fun t => if t = true then some false else spec_l04Each.l0 k (n : Int) l ((i + 1 : Nat) : Int)) (fun k => ?_) (Ev.bind hh ?_)
        · simp only [spec_l04Each.l0, rd_lt hil, l00In_f, Option.bind_some, if_dec, wn]
          rw [if_pos (by omega), if_pos (by omega), if_pos hr, if_pos (by omega), Int.toNat_natCast, wr (n := (i : Int) + 1) (by omega) (by omega)]
          rfl
        · simp only [if_true]; exact Ev.now _
      · rw [decide_eq_false hm] at hh
        refine Ev.step (f := fun k => (spec_l00Has.f k (l.take i) l[i]).bind fun t => if t = true then some false else spec_l04Each.l0 k (n : Int) l ((i + 1 : Nat) : Int)) (fun k => ?_) (Ev.bind hh ?_)
        · simp only [spec_l04Each.l0, rd_lt hil, l00In_f, Option.bind_some, if_dec, wn]
          rw [if_pos (by omega), if_pos (by omega), if_pos hr, if_pos (by omega), Int.toNat_natCast, wr (n := (i : Int) + 1) (by omega) (by omega)]
          rfl
        · simp only [Bool.false_eq_true, if_false]
          refine ih (i + 1) (by omega) ?_ ?_
          · intro x hx
            rw [take_snoc l hil] at hx
            rcases List.mem_append.1 hx with hx | hx
            · exact h1 x hx
            · rw [List.mem_singleton.1 hx]; exact hr
          · rw [take_snoc l hil]
            refine List.nodup_append.2 ⟨h2, by simp, ?_⟩
            intro a ha b hb
            rw [List.mem_singleton.1 hb]
            intro e; exact hm (e ▸ ha)
    · have : isOrd n l = false := decide_eq_false (fun z => hr (z.2.1 _ (List.getElem_mem hil)))
      rw [this]
      refine Ev.step (f := fun _ => some false) (fun k => ?_) (Ev.now _)
      simp only [spec_l04Each.l0, rd_lt hil, l00In_f, Option.bind_some, if_dec, wn]
      rw [if_pos (by omega), if_pos (by omega), if_neg hr]
theorem each_ev (n : Nat) (hn : (n : Int) ≤ 1048576) (l : List Int) (hl : (l.length : Int) ≤ 140737488351232) : Ev (fun k => spec_l04Each.f k (n : Int) l) (isOrd n l) := by
  unfold spec_l04Each.f
  exact each_loop n hn l hl l.length 0 (by omega) (by simp) (by simp)
theorem incr_loop (B : Int) (s : List Int) (hs : s.Pairwise (fun a b => a ≤ b)) (hl : (s.length : Int) ≤ 140737488351232) (d : Nat) : ∀ (i : Nat), i + d = s.length → (∀ x ∈ s.take i, 0 ≤ x ∧ x ≤ B) → (s.take i).Pairwise (fun a b => a < b) →
    Ev (fun k => impl_areIncreasing.l0 k s 0 B s (s.length : Int) (i : Int)) (decide ((∀ x ∈ s, 0 ≤ x ∧ x ≤ B) ∧ s.Pairwise (fun a b => a < b))) := by
  induction d with
  | zero =>
    intro i hi h1 h2
    have : i = s.length := by omega
    subst this
    rw [List.take_length] at h1 h2
    rw [decide_eq_true ⟨h1, h2⟩]
    refine Ev.step (f := fun _ => some true) (fun k => ?_) (Ev.now _)
    simp only [impl_areIncreasing.l0]; rw [if_neg (by omega)]
  | succ d ih =>
    intro i hi h1 h2
    have hil : i < s.length := by omega
    by_cases hr : 0 ≤ s[i] ∧ s[i] ≤ B
    · have more : (0 < i → s[i - 1]'(by omega) < s[i]) → (s.take (i + 1)).Pairwise (fun a b => a < b) := by
        intro hp
        rw [take_snoc s hil]
        refine List.pairwise_append.2 ⟨h2, by simp, ?_⟩
        intro a ha b hb
        rw [List.mem_singleton.1 hb]
        obtain ⟨j, hj, rfl⟩ := List.mem_iff_getElem.1 ha
        rw [List.length_take] at hj
        rw [List.getElem_take]
        have hlt := hp (by omega)
        rcases Nat.lt_or_ge j (i - 1) with h | h
        · have := List.pairwise_iff_getElem.1 hs j (i - 1) (by omega) (by omega) h
          omega
        · have e : j = i - 1 := by omega
          subst e; exact hlt
      have rng : ∀ x ∈ s.take (i + 1), 0 ≤ x ∧ x ≤ B := by
        intro x hx
        rw [take_snoc s hil] at hx
        rcases List.mem_append.1 hx with hx | hx
        · exact h1 x hx
        · rw [List.mem_singleton.1 hx]; exact hr
      by_cases h0 : 0 < i
      · have wi : wrap64 ((i : Int) - 1) = ((i - 1 : Nat) : Int) := by rw [wr (by omega) (by omega)]; omega
        have hil' : i - 1 < s.length := by omega
        by_cases hle : s[i] ≤ s[i - 1]
        · rw [decide_eq_false (fun z => by
            have := List.pairwise_iff_getElem.1 z.2 (i - 1) i (by omega) (by omega) (by omega)
            omega)]
          refine Ev.step (f := fun _ => some false) (fun k => ?_) (Ev.now _)
          simp only [impl_areIncreasing.l0, rd_lt hil, within_f, Option.bind_some, if_dec, wi, rd_lt hil']
          rw [if_pos (by omega), if_pos (by omega), if_pos (by omega), if_pos hr, if_pos (by omega), if_pos (by omega), if_pos (by omega), if_pos hle]
        · refine Ev.step (fun k => ?_) (ih (i + 1) (by omega) rng (more (fun _ => by omega)))
          simp only [impl_areIncreasing.l0, rd_lt hil, within_f, Option.bind_some, if_dec, wi, rd_lt hil']
          rw [if_pos (by omega), if_pos (by omega), if_pos (by omega), if_pos hr, if_pos (by omega), if_pos (by omega), if_pos (by omega), if_neg hle, wr (n := (i : Int) + 1) (by omega) (by omega)]; rfl
      · refine Ev.step (fun k => ?_) (ih (i + 1) (by omega) rng (more (fun h => absurd h h0)))
        simp only [impl_areIncreasing.l0, rd_lt hil, within_f, Option.bind_some, if_dec]
        rw [if_pos (by omega), if_pos (by omega), if_pos (by omega), if_pos hr, if_neg (by omega), wr (n := (i : Int) + 1) (by omega) (by omega)]; rfl
    · rw [decide_eq_false (fun z => hr (z.1 _ (List.getElem_mem hil)))]
      refine Ev.step (f := fun _ => some false) (fun k => ?_) (Ev.now _)
      simp only [impl_areIncreasing.l0, rd_lt hil, within_f, Option.bind_some, if_dec]
      rw [if_pos (by omega), if_pos (by omega), if_pos (by omega), if_neg hr]
theorem isOrder_ev (n : Nat) (hn : (n : Int) ≤ 1048576) (l : List Int) (hl : (l.length : Int) ≤ 1048576) : Ev (fun k => impl_isOrder.f k l (n : Int)) (isOrd n l) := by
  unfold impl_isOrder.f
  by_cases h : (l.length : Int) = (n : Int)
  · have hz : l.length * 8 ≤ 140737488351232 := by omega
    have wn : wrap64 ((n : Int) - 1) = (n : Int) - 1 := wr (by omega) (by omega)
    simp only [if_pos h, if_pos hz, wn]
    unfold impl_areIncreasing.f
    have hp : (l.mergeSort fun x y => decide (x ≤ y)).Perm l := List.mergeSort_perm l _
    have hs : (l.mergeSort fun x y => decide (x ≤ y)).Pairwise (fun a b => a ≤ b) := by
      have z := List.pairwise_mergeSort (le := fun x y : Int => decide (x ≤ y)) (by simp; omega) (by simp; omega) l
      exact z.imp (fun h => of_decide_eq_true h)
    have hlen : (l.mergeSort fun x y => decide (x ≤ y)).length = l.length := hp.length_eq
    generalize (l.mergeSort fun x y => decide (x ≤ y)) = s at *
    refine ev_id (incr_loop ((n : Int) - 1) s hs (by omega) s.length 0 (by omega) (by simp) (by simp)) ?_
    unfold isOrd
    rw [decide_eq_decide]
    constructor
    · rintro ⟨a, b⟩
      exact ⟨by omega, fun x hx => a x (hp.mem_iff.2 hx), hp.nodup_iff.1 (b.imp (fun h => by omega))⟩
    · rintro ⟨_, a, b⟩
      refine ⟨fun x hx => a x (hp.mem_iff.1 hx), ?_⟩
      exact (hs.and (hp.nodup_iff.2 b)).imp (fun ⟨h1, h2⟩ => by omega)
  · simp only [if_neg h]
    have : isOrd n l = false := decide_eq_false (fun z => h (by omega))
    rw [this]; exact Ev.now _
theorem rd_drop (O : List Int) (i j : Nat) (h1 : i ≤ j) (h2 : j < O.length) : rd (O.drop i) ((j - i : Nat) : Int) = O[j] := by
  have hl : j - i < (O.drop i).length := by rw [List.length_drop]; omega
  rw [rd_lt hl, List.getElem_drop]
  congr 1; omega
theorem can_in (R O : List Int) (hO : O.length ≤ 8) (hr : ∀ x ∈ O, 0 ≤ x ∧ x < (R.length : Int)) (i : Nat) (hi : i < O.length) (next : Same (fun k => spec_CanUnwind.l0 k R O ((i + 1 : Nat) : Int)) (fun k => impl_CanUnwind.l0 k R O O (O.length : Int) ((i + 1 : Nat) : Int))) (d : Nat) : ∀ j : Nat, i + 1 ≤ j → j + d = O.length →
    Same (fun k => spec_CanUnwind.l1 k R O (i : Int) (j : Int)) (fun k => impl_CanUnwind.l1 k R O O[i] O (O.length : Int) (i : Int) (O.drop (i + 1)) ((O.drop (i + 1)).length : Int) ((j - (i + 1) : Nat) : Int)) := by
  have wi : wrap64 ((i : Int) + 1) = ((i + 1 : Nat) : Int) := by rw [wr (by omega) (by omega)]; omega
  have hlen : ((O.drop (i + 1)).length : Int) = (O.length : Int) - ((i : Int) + 1) := by rw [List.length_drop]; omega
  have ri := hr O[i] (List.getElem_mem hi)
  induction d with
  | zero =>
    intro j h1 h2
    refine Same.step (fun k => ?_) (fun k => ?_) next
    · simp only [spec_CanUnwind.l1]; rw [if_neg (by omega), wi]
    · simp only [impl_CanUnwind.l1]; rw [if_neg (by omega), wi]
  | succ d ih =>
    intro j h1 h2
    have hj : j < O.length := by omega
    have rj := hr O[j] (List.getElem_mem hj)
    have wj : wrap64 ((j : Int) + 1) = ((j + 1 : Nat) : Int) := by rw [wr (by omega) (by omega)]; omega
    have wj' : wrap64 (((j - (i + 1) : Nat) : Int) + 1) = ((j + 1 - (i + 1) : Nat) : Int) := by rw [wr (by omega) (by omega)]; omega
    have rdj := rd_drop O (i + 1) j h1 hj
    have I := ih (j + 1) (by omega) (by omega)
    by_cases e1 : rd R O[i] = rd R O[j]
    · by_cases e2 : O[i] < O[j]
      · refine Same.step (g' := fun _ => some (false, 0)) (f' := fun _ => some (false, 0)) (fun k => ?_) (fun k => ?_) (Same.now _)
        · simp only [spec_CanUnwind.l1, rd_lt hi, rd_lt hj]
          rw [if_pos (by omega), if_pos (by omega), if_pos (by omega), if_pos (by omega), if_pos (by omega), if_pos (by omega), if_pos (by omega), if_pos (by omega), if_pos e1, if_pos e2]
        · simp only [impl_CanUnwind.l1, rdj]
          rw [if_pos (by omega), if_pos (by omega), if_pos (by omega), if_pos (by omega), if_pos (by omega), if_pos (by omega), if_pos (by omega), if_pos e1, if_pos (by omega)]
      · refine Same.step (fun k => ?_) (fun k => ?_) I
        · simp only [spec_CanUnwind.l1, rd_lt hi, rd_lt hj]
          rw [if_pos (by omega), if_pos (by omega), if_pos (by omega), if_pos (by omega), if_pos (by omega), if_pos (by omega), if_pos (by omega), if_pos (by omega), if_pos e1, if_neg e2, wj]
        · simp only [impl_CanUnwind.l1, rdj]
          rw [if_pos (by omega), if_pos (by omega), if_pos (by omega), if_pos (by omega), if_pos (by omega), if_pos (by omega), if_pos (by omega), if_pos e1, if_neg (by omega), wj']
    · refine Same.step (fun k => ?_) (fun k => ?_) I
      · simp only [spec_CanUnwind.l1, rd_lt hi, rd_lt hj]
        rw [if_pos (by omega), if_pos (by omega), if_pos (by omega), if_pos (by omega), if_pos (by omega), if_pos (by omega), if_pos (by omega), if_pos (by omega), if_neg e1, wj]
      · simp only [impl_CanUnwind.l1, rdj]
        rw [if_pos (by omega), if_pos (by omega), if_pos (by omega), if_pos (by omega), if_pos (by omega), if_pos (by omega), if_pos (by omega), if_neg e1, wj']
theorem can_out (R O : List Int) (hO : O.length ≤ 8) (hr : ∀ x ∈ O, 0 ≤ x ∧ x < (R.length : Int)) (d : Nat) : ∀ i : Nat, i + d = O.length → Same (fun k => spec_CanUnwind.l0 k R O (i : Int)) (fun k => impl_CanUnwind.l0 k R O O (O.length : Int) (i : Int)) := by
  induction d with
  | zero =>
    intro i hi
    refine Same.step (g' := fun _ => some (true, 0)) (f' := fun _ => some (true, 0)) (fun k => ?_) (fun k => ?_) (Same.now _)
    · simp only [spec_CanUnwind.l0]; rw [if_neg (by omega)]
    · simp only [impl_CanUnwind.l0]; rw [if_neg (by omega)]
  | succ d ih =>
    intro i hi
    have hil : i < O.length := by omega
    have wi : wrap64 ((i : Int) + 1) = ((i + 1 : Nat) : Int) := by rw [wr (by omega) (by omega)]; omega
    have z := can_in R O hO hr i hil (ih (i + 1) (by omega)) d (i + 1) (Nat.le_refl _) (by omega)
    rw [Nat.sub_self] at z
    refine Same.step (fun k => ?_) (fun k => ?_) z
    · simp only [spec_CanUnwind.l0]; rw [if_pos (by omega), wi]
    · simp only [impl_CanUnwind.l0, rd_lt hil, wi, Int.toNat_natCast, Option.bind_some]
      rw [if_pos (by omega), if_pos (by omega), if_pos (by omega), if_pos (by omega), if_pos (by omega)]
      rfl
theorem can_same (R O : List Int) (hR : (R.length : Int) ≤ 1048576) (hO : (O.length : Int) ≤ 1048576) : Same (fun k => spec_CanUnwind.f k R O) (fun k => impl_CanUnwind.f k R O) := by
  unfold spec_CanUnwind.f impl_CanUnwind.f
  have te := told_ev R (by omega)
  simp only [unwindCode_f R (by omega), Option.bind_some]
  by_cases h : toldC R = 0
  · rw [h] at te
    have s := each_ev R.length hR O (by omega)
    have i := isOrder_ev R.length hR O hO
    have hl8 : R.length ≤ 8 := by
      unfold toldC at h
      by_cases h8 : (R.length : Int) > 8
      · rw [if_pos h8] at h; omega
      · omega
    cases ho : isOrd R.length O with
    | true =>
      rw [ho] at s i
      obtain ⟨h1, h2, _⟩ := of_decide_eq_true ho
      obtain ⟨r, a, b⟩ := can_out R O (by omega) (fun x hx => by have := h2 x hx; omega) O.length 0 (by omega)
      refine ⟨r, Ev.bind te ?_, ?_⟩
      · simp only [if_true]
        exact Ev.bind s (by simp only [if_true]; exact a)
      · simp only [if_pos h]
        exact Ev.bind i (by simp only [if_true]; exact b)
    | false =>
      rw [ho] at s i
      refine ⟨(false, 4), Ev.bind te ?_, ?_⟩
      · simp only [if_true]
        exact Ev.bind s (by simp only [Bool.false_eq_true, if_false]; exact Ev.now _)
      · simp only [if_pos h]
        exact Ev.bind i (by simp only [Bool.false_eq_true, if_false]; exact Ev.now _)
  · exact ⟨(false, toldC R), Ev.bind te (by simp only [if_neg h]; exact Ev.now _), by simp only [if_neg h]; exact Ev.now _⟩
theorem FnExactCanUnwind : laws_FnExactCanUnwind.Pure := by
  intro R O ⟨hR, _⟩ ⟨hO, _⟩
  refine Ev.rounds ?_
  unfold laws_FnExactCanUnwind.f
  by_cases h1 : (R.length : Int) > 1048576
  · simp only [if_pos h1]; exact Ev.now _
  · by_cases h2 : (O.length : Int) > 1048576
    · simp only [if_neg h1, if_pos h2]; exact Ev.now _
    · simp only [if_neg h1, if_neg h2]
      have tR := toInt64S_ev R (by omega)
      have tO := toInt64S_ev O (by omega)
      obtain ⟨⟨b, c⟩, f1, f2⟩ := can_same R O (by omega) (by omega)
      refine Ev.bind tR (Ev.bind tO (Ev.bind f1 (Ev.bind tR (Ev.bind tO (Ev.bind f2 ?_)))))
      simp only [bne_self_eq_false, Bool.false_eq_true, if_false]
      refine Ev.step (fun k => by simp only [laws_FnExactCanUnwind.j0, Bool.false_eq_true, if_false]; rfl) (Ev.bind tR (Ev.bind (eqInt64S_self R (by omega)) ?_))
      simp only [if_true]
      refine Ev.bind tO (Ev.bind (eqInt64S_self O (by omega)) ?_)
      simp only [if_true]; exact Ev.now _
end Go.Proofs.Ytjhafhejdlmcmaa.Pure
