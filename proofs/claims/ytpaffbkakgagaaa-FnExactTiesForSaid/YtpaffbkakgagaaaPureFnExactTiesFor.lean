/- The program's TiesFor returns what the reference's returns, for all arguments (64-bit integers). -/
import Derived.Test.YtpaffbkakgagaaaPFnExactTiesForx2
namespace Go.Proofs.Ytpaffbkakgagaaa.Pure
open Go.RowKit Go.Proofs.Ytpaffbkakgagaaa.PFnExactTiesFor Go.Proofs.YtpaffbkakgagaaaW.PrintWords Go.Proofs.YtpaffbkakgagaaaW.PrintLast
set_option linter.unusedVariables false
set_option linter.unusedSimpArgs false
theorem wr {n : Int} (h0 : -9223372036854775808 ≤ n) (h1 : n ≤ 9223372036854775807) : wrap64 n = n := by
  unfold wrap64; omega
theorem wf64 {a : Int} (h : (Lit.int .i64 a).wf = true) : -9223372036854775808 ≤ a ∧ a ≤ 9223372036854775807 := by
  simp only [Lit.wf, IntKind.min, IntKind.max, IntKind.signed, IntKind.bits, Bool.and_eq_true, decide_eq_true_eq, if_true] at h
  omega
theorem ev_id {α : Type} {g : Nat → Option α} {r s : α} (h : Ev g r) (e : r = s) : Ev g s := e ▸ h
theorem ev_const {α : Type} {o : Option α} {r : α} (h : o = some r) : Ev (fun _ => o) r := ⟨0, fun _ _ => h⟩
theorem ev_fun {α : Type} {g : Nat → Option α} {r s : α} (h : Ev g r) (k : Ev g s) : r = s := by
  obtain ⟨a, h⟩ := h
  obtain ⟨b, k⟩ := k
  have x := h (max a b) (by omega)
  have y := k (max a b) (by omega)
  rw [x] at y; exact Option.some.inj y
/-- Both come to one answer. -/
def Same {α : Type} (g f : Nat → Option α) : Prop := ∃ r, Ev g r ∧ Ev f r
theorem Same.step {α : Type} {g f g' f' : Nat → Option α} (hg : ∀ k, g (k + 1) = g' k) (hf : ∀ k, f (k + 1) = f' k) (h : Same g' f') : Same g f := by
  obtain ⟨r, a, b⟩ := h
  exact ⟨r, Ev.step hg a, Ev.step hf b⟩
theorem Same.left {α : Type} {g f g' : Nat → Option α} (hg : ∀ k, g (k + 1) = g' k) (h : Same g' f) : Same g f := by
  obtain ⟨r, a, b⟩ := h
  exact ⟨r, Ev.step hg a, b⟩
theorem Same.right {α : Type} {g f f' : Nat → Option α} (hf : ∀ k, f (k + 1) = f' k) (h : Same g f') : Same g f := by
  obtain ⟨r, a, b⟩ := h
  exact ⟨r, a, Ev.step hf b⟩
theorem Same.now {α : Type} (r : α) : Same (fun _ => some r) (fun _ => some r) := ⟨r, Ev.now r, Ev.now r⟩
theorem if_dec {α : Type} {p : Prop} [Decidable p] (a b : α) : (if decide p = true then a else b) = if p then a else b := by
  by_cases h : p <;> simp [h]
theorem l00In_f (a b c : Int) : spec_l00In.f a b c = some (decide (b ≤ a ∧ a ≤ c)) := by
  unfold spec_l00In.f
  by_cases h : b ≤ a <;> simp [h]
theorem within_f (a b c : Int) : impl_within.f a b c = some (decide (b ≤ a ∧ a ≤ c)) := by
  unfold impl_within.f
  by_cases h : b ≤ a <;> simp [h]
theorem rd_lt {l : List Int} {i : Nat} (h : i < l.length) : rd l (i : Int) = l[i] := by
  unfold rd; simp [List.getD, h]
theorem eqInt64S_loop (a b : List Int) (hab : a.length = b.length) (hn : (a.length : Int) ≤ 4611686018427387904) (d : Nat) : ∀ (i : Nat), i ≤ a.length → a.length - i = d →
    Ev (fun k => laws_eqInt64S.l0 k a b (i : Int)) (decide (a.drop i = b.drop i)) := by
  induction d with
  | zero =>
    intro i hi hd
    refine Ev.step (f := fun _ => some (decide (a.drop i = b.drop i))) (fun k => ?_) (Ev.now _)
    simp only [laws_eqInt64S.l0]
    rw [if_neg (by omega), List.drop_eq_nil_of_le (by omega), List.drop_eq_nil_of_le (by omega)]; simp
  | succ d ih =>
    intro i hi hd
    have ha : i < a.length := by omega
    have hb : i < b.length := by omega
    by_cases e : a[i] = b[i]
    · refine Ev.step (fun k => ?_) (ev_id (ih (i + 1) (by omega) (by omega)) ?_)
      · simp only [laws_eqInt64S.l0]
        rw [if_pos (by omega), if_pos (by omega), if_pos (by omega), rd_lt ha, rd_lt hb, if_pos e, wr (by omega) (by omega)]; rfl
      · simp only [List.drop_eq_getElem_cons ha, List.drop_eq_getElem_cons hb, List.cons.injEq, e, true_and]
    · refine Ev.step (f := fun _ => some false) (fun k => ?_) (ev_id (Ev.now _) ?_)
      · simp only [laws_eqInt64S.l0]
        rw [if_pos (by omega), if_pos (by omega), if_pos (by omega), rd_lt ha, rd_lt hb, if_neg e]
      · simp only [List.drop_eq_getElem_cons ha, List.drop_eq_getElem_cons hb, List.cons.injEq, e, false_and, decide_false]
theorem eqInt64S_ev (a b : List Int) (hn : (a.length : Int) ≤ 4611686018427387904) : Ev (fun k => laws_eqInt64S.f k a b) (decide (a = b)) := by
  unfold laws_eqInt64S.f
  by_cases h : a.length = b.length
  · simp only [h, if_true]
    simpa using eqInt64S_loop a b h hn a.length 0 (by omega) (by omega)
  · have h' : ¬ (a.length : Int) = b.length := by omega
    simp only [if_neg h']
    have : a ≠ b := fun e => h (by rw [e])
    simpa [this] using Ev.now false
theorem eqInt64S_self (a : List Int) (hn : (a.length : Int) ≤ 4611686018427387904) : Ev (fun k => laws_eqInt64S.f k a a) true := by
  simpa using eqInt64S_ev a a hn
theorem markInt64S_loop (d : Nat) : ∀ (a p : List Int) (m : Int) (i : Nat), i + d = a.length → (a.length : Int) ≤ 4611686018427387904 → m = 1 + i → (∀ j (h : j < a.length), j < i → a[j] = 1 + (j : Int)) →
    ∃ r : List Int, Ev (fun k => laws_markInt64S.l0 k a m (i : Int)) (1 + (a.length : Int), r) ∧ r.length = a.length ∧ ∀ j (h : j < r.length), r[j] = 1 + (j : Int) := by
  induction d with
  | zero =>
    intro a p m i hi hn hm ha
    refine ⟨a, Ev.step (f := fun _ => some (1 + (a.length : Int), a)) (fun k => ?_) (Ev.now _), rfl, fun j h => ha j h (by omega)⟩
    simp only [laws_markInt64S.l0]
    rw [if_neg (by omega), show m = 1 + (a.length : Int) by omega]
  | succ d ih =>
    intro a p m i hi hn hm ha
    obtain ⟨r, h1, h2, h3⟩ := ih (a.set i m) p (m + 1) (i + 1) (by simp; omega) (by simpa using hn) (by omega) (by
      intro j h hj
      simp only [List.getElem_set]
      split
      · omega
      · exact ha j (by simpa using h) (by omega))
    simp only [List.length_set] at h1 h2
    refine ⟨r, Ev.step (fun k => ?_) h1, h2, h3⟩
    simp only [laws_markInt64S.l0]
    rw [if_pos (by omega), if_pos (by omega), wr (n := m + 1) (by omega) (by omega), wr (n := (i : Int) + 1) (by omega) (by omega)]; rfl
theorem heldInt64S_loop (a : List Int) (hn : (a.length : Int) ≤ 4611686018427387904) (ha : ∀ j (h : j < a.length), a[j] = 1 + (j : Int)) (d : Nat) : ∀ (i : Nat), i + d = a.length →
    Ev (fun k => laws_heldInt64S.l0 k a (1 + (i : Int)) (i : Int)) (1 + (a.length : Int)) := by
  induction d with
  | zero =>
    intro i hi
    refine Ev.step (f := fun _ => some (1 + (a.length : Int))) (fun k => ?_) (Ev.now _)
    simp only [laws_heldInt64S.l0]
    rw [if_neg (by omega), show i = a.length by omega]
  | succ d ih =>
    intro i hi
    refine Ev.step (fun k => ?_) (ih (i + 1) (by omega))
    simp only [laws_heldInt64S.l0]
    rw [if_pos (by omega), if_pos (by omega), rd_lt (by omega), if_pos (ha i (by omega)), wr (n := 1 + (i : Int) + 1) (by omega) (by omega), wr (n := (i : Int) + 1) (by omega) (by omega), show 1 + (i : Int) + 1 = 1 + ((i + 1 : Nat) : Int) by omega]; rfl
/-- What has been marked is held. -/
theorem markInt64S_ev (a : List Int) (hn : (a.length : Int) ≤ 4611686018427387904) :
    ∃ r : List Int, Ev (fun k => laws_markInt64S.f k a 1) (1 + (a.length : Int), r) ∧ Ev (fun k => laws_heldInt64S.f k r 1) (1 + (a.length : Int)) := by
  obtain ⟨r, h1, h2, h3⟩ := markInt64S_loop a.length a a 1 0 (by omega) hn (by omega) (fun j h hj => by omega)
  refine ⟨r, h1, ?_⟩
  have := heldInt64S_loop r (by omega) h3 r.length 0 (by omega)
  rw [h2] at this
  exact this
theorem ties_loop (t e : Int) (ht : 0 ≤ t ∧ t ≤ 1000) (he : 1 ≤ e ∧ e ≤ 1000) (d : Nat) : ∀ (out : List Int) (n m : Int), out.length ≤ n → 1 ≤ n → n ≤ t → (t - n).toNat = d → n ≤ m → m < n + e → m % e = 0 →
    ∃ r : List Int, Ev (fun k => spec_TiesFor.l0 k t e out n) (r, 0) ∧ Ev (fun k => impl_TiesFor.l0 k t e out m) (r, 0) ∧ r.length ≤ t + 1 := by
  induction d with
  | zero =>
    intro out n m hl h1 h2 hd hm1 hm2 hm
    have hn : n = t := by omega
    have hmod : Int.tmod n e = n % e := Int.tmod_eq_emod_of_nonneg (by omega)
    refine ⟨out ++ [t], Ev.step (f := fun k => spec_TiesFor.l0 k t e (out ++ [t]) (n + 1)) (fun k => ?_) (Ev.step (f := fun _ => some (out ++ [t], 0)) (fun k => ?_) (Ev.now _)), Ev.step (f := fun _ => some (out ++ [t], 0)) (fun k => ?_) (Ev.now _), by simp; omega⟩
    · simp only [spec_TiesFor.l0]
      rw [if_pos h2, if_neg (by omega), wr (n := n + 1) (by omega) (by omega)]
      subst hn
      by_cases hz : Int.tmod n e = 0
      · rw [if_pos hz, if_pos (by omega)]
      · rw [if_neg hz, if_pos rfl, if_pos (by omega)]
    · simp only [spec_TiesFor.l0]
      rw [if_neg (by omega)]
    · simp only [impl_TiesFor.l0]
      rw [if_neg (by omega), if_pos (by omega), if_pos (by omega)]
  | succ d ih =>
    intro out n m hl h1 h2 hd hm1 hm2 hm
    have hmod : Int.tmod n e = n % e := Int.tmod_eq_emod_of_nonneg (by omega)
    have hnt : n < t := by omega
    by_cases hz : n % e = 0
    · have hmn : m = n := by
        obtain ⟨q, hq⟩ := Int.dvd_of_emod_eq_zero hz
        obtain ⟨p, hp⟩ := Int.dvd_of_emod_eq_zero hm
        have : e * (p - q) = m - n := by rw [Int.mul_sub]; omega
        by_cases hpq : p - q ≤ 0
        · have : e * (p - q) ≤ 0 := Int.mul_nonpos_of_nonneg_of_nonpos (by omega) hpq
          omega
        · have : e * 1 ≤ e * (p - q) := Int.mul_le_mul_of_nonneg_left (by omega) (by omega)
          omega
      subst hmn
      obtain ⟨r, h3, h4, h5⟩ := ih (out ++ [m]) (m + 1) (m + e) (by simp; omega) (by omega) (by omega) (by omega) (by omega) (by omega) (by rw [Int.add_emod]; simp [hz])
      refine ⟨r, Ev.step (fun k => ?_) h3, Ev.step (fun k => ?_) h4, h5⟩
      · simp only [spec_TiesFor.l0]
        rw [if_pos h2, if_neg (by omega), wr (n := m + 1) (by omega) (by omega), if_pos (by omega), if_pos (by omega)]
      · simp only [impl_TiesFor.l0]
        rw [if_pos hnt, if_pos (by omega), wr (n := m + e) (by omega) (by omega)]
    · have hmn : m ≠ n := fun h => hz (h ▸ hm)
      by_cases hme : m < n + 1 + e
      · obtain ⟨r, h3, h4, h5⟩ := ih out (n + 1) m (by omega) (by omega) (by omega) (by omega) (by omega) hme hm
        refine ⟨r, Ev.step (fun k => ?_) h3, h4, h5⟩
        simp only [spec_TiesFor.l0]
        rw [if_pos h2, if_neg (by omega), wr (n := n + 1) (by omega) (by omega), if_neg (by omega), if_neg (by omega)]
      · omega
theorem ties_same (a b : Int) : ∃ r : List Int × Int, Ev (fun k => spec_TiesFor.f k a b) r ∧ Ev (fun k => impl_TiesFor.f k a b) r ∧ (r.1.length : Int) ≤ 1001 := by
  unfold spec_TiesFor.f impl_TiesFor.f
  simp only [l00In_f, within_f, Option.bind_some, if_dec]
  by_cases h1 : 0 ≤ a ∧ a ≤ 1000
  · by_cases h2 : 1 ≤ b ∧ b ≤ 1000
    · simp only [if_pos h1, decide_eq_true h2]
      by_cases h3 : a = 0
      · refine ⟨([], 0), Ev.step (fun k => by simp [spec_TiesFor.j0]; rfl) (Ev.step (f := fun _ => some ([], 0)) (fun k => ?_) (Ev.now _)), Ev.step (fun k => by simp [impl_TiesFor.j0]; rfl) (Ev.step (f := fun _ => some ([], 0)) (fun k => ?_) (Ev.now _)), by simp⟩
        · simp only [spec_TiesFor.l0]; rw [if_neg (by omega)]
        · simp only [impl_TiesFor.l0]; rw [if_neg (by omega), if_neg (by omega)]
      · obtain ⟨r, e1, e2, e3⟩ := ties_loop a b h1 h2 _ [] 1 b (by simp) (by omega) (by omega) rfl (by omega) (by omega) (by simp)
        exact ⟨(r, 0), Ev.step (fun k => by simp [spec_TiesFor.j0]) e1, Ev.step (fun k => by simp [impl_TiesFor.j0]) e2, by simp only; omega⟩
    · simp only [if_pos h1, decide_eq_false h2]
      exact ⟨([], 2), Ev.step (f := fun _ => some ([], 2)) (fun k => by simp [spec_TiesFor.j0]) (Ev.now _), Ev.step (f := fun _ => some ([], 2)) (fun k => by simp [impl_TiesFor.j0]) (Ev.now _), by simp⟩
  · simp only [if_neg h1]
    exact ⟨([], 2), Ev.step (f := fun _ => some ([], 2)) (fun k => by simp [spec_TiesFor.j0]) (Ev.now _), Ev.step (f := fun _ => some ([], 2)) (fun k => by simp [impl_TiesFor.j0]) (Ev.now _), by simp⟩
theorem FnExactTiesFor : laws_FnExactTiesFor.Pure := by
  intro a b _ _
  obtain ⟨⟨r, c⟩, h1, h2, h3⟩ := ties_same a b
  have hl : (r.length : Int) ≤ 4611686018427387904 := by simp only at h3; omega
  obtain ⟨s, m1, m2⟩ := markInt64S_ev r hl
  refine Ev.rounds ?_
  unfold laws_FnExactTiesFor.f
  refine Ev.bind h1 (Ev.bind h2 (Ev.bind (eqInt64S_self r hl) ?_))
  simp only [if_true, bne_self_eq_false]
  refine Ev.step (fun k => by simp only [laws_FnExactTiesFor.j0]; rfl) ?_
  simp only [Bool.false_eq_true, if_false]
  refine Ev.bind m1 (Ev.bind m2 ?_)
  have hneg : ¬ (1 + (r.length : Int) < 0) := by omega
  simp only [if_neg hneg, if_true]
  refine Ev.bind h2 (Ev.bind (eqInt64S_self r hl) ?_)
  simp only [if_true, bne_self_eq_false]
  refine Ev.step (fun k => by simp only [laws_FnExactTiesFor.j1]; rfl) ?_
  simp only [Bool.false_eq_true, if_false]
  refine Ev.bind m2 ?_
  simp only [if_neg hneg, if_true]
  exact Ev.now _
end Go.Proofs.Ytpaffbkakgagaaa.Pure
