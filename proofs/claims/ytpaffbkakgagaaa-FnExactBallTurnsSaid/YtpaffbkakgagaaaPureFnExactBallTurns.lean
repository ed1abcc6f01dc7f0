/- The program's BallTurns returns what the reference's returns, for all arguments (64-bit integers). -/
import Derived.Test.YtpaffbkakgagaaaPFnExactBallTurnsx1
namespace Go.Proofs.Ytpaffbkakgagaaa.Pure
open Go.RowKit Go.Proofs.Ytpaffbkakgagaaa.PFnExactBallTurns Go.Proofs.YtpaffbkakgagaaaW.PrintWords Go.Proofs.YtpaffbkakgagaaaW.PrintLast
set_option linter.unusedVariables false
set_option linter.unusedSimpArgs false
theorem wr {n : Int} (h0 : -9223372036854775808 ≤ n) (h1 : n ≤ 9223372036854775807) : wrap64 n = n := by
  unfold wrap64; omega
theorem wf64 {a : Int} (h : (Lit.int .i64 a).wf = true) : -9223372036854775808 ≤ a ∧ a ≤ 9223372036854775807 := by
  simp only [Lit.wf, IntKind.min, IntKind.max, IntKind.signed, IntKind.bits, Bool.and_eq_true, decide_eq_true_eq, if_true] at h
  omega
theorem ev_id {α : Type} {g : Nat → Option α} {r s : α} (h : Ev g r) (e : r = s) : Ev g s := e ▸ h
theorem ev_const {α : Type} {o : Option α} {r : α} (h : o = some r) : Ev (fun _ => o) r := ⟨0, fun _ _ => h⟩
theorem ev_fun {α : Type} {g : Nat → Option α} {r s : α} (h : Ev g r) (k : Ev g s) : r = s := by
  obtain ⟨a, h⟩ := h
  obtain ⟨b, k⟩ := k
  have x := h (max a b) (by omega)
  have y := k (max a b) (by omega)
  rw [x] at y; exact Option.some.inj y
/-- Both come to one answer. -/
def Same {α : Type} (g f : Nat → Option α) : Prop := ∃ r, Ev g r ∧ Ev f r
theorem Same.step {α : Type} {g f g' f' : Nat → Option α} (hg : ∀ k, g (k + 1) = g' k) (hf : ∀ k, f (k + 1) = f' k) (h : Same g' f') : Same g f := by
  obtain ⟨r, a, b⟩ := h
  exact ⟨r, Ev.step hg a, Ev.step hf b⟩
theorem Same.left {α : Type} {g f g' : Nat → Option α} (hg : ∀ k, g (k + 1) = g' k) (h : Same g' f) : Same g f := by
  obtain ⟨r, a, b⟩ := h
  exact ⟨r, Ev.step hg a, b⟩
theorem Same.right {α : Type} {g f f' : Nat → Option α} (hf : ∀ k, f (k + 1) = f' k) (h : Same g f') : Same g f := by
  obtain ⟨r, a, b⟩ := h
  exact ⟨r, a, Ev.step hf b⟩
theorem Same.now {α : Type} (r : α) : Same (fun _ => some r) (fun _ => some r) := ⟨r, Ev.now r, Ev.now r⟩
theorem if_dec {α : Type} {p : Prop} [Decidable p] (a b : α) : (if decide p = true then a else b) = if p then a else b := by
  by_cases h : p <;> simp [h]
theorem l00In_f (a b c : Int) : spec_l00In.f a b c = some (decide (b ≤ a ∧ a ≤ c)) := by
  unfold spec_l00In.f
  by_cases h : b ≤ a <;> simp [h]
theorem within_f (a b c : Int) : impl_within.f a b c = some (decide (b ≤ a ∧ a ≤ c)) := by
  unfold impl_within.f
  by_cases h : b ≤ a <;> simp [h]
theorem tl_f (i b c d : Int) (h0 : 0 ≤ i) (h1 : i ≤ 200000) (hb : 1 ≤ b ∧ b ≤ 500) (hc : 0 ≤ c ∧ c ≤ 500) (hd : 1 ≤ d ∧ d ≤ 100) :
    ∃ t, 1 ≤ t ∧ t ≤ 200000000 ∧ wrap64 (b + (wrap64 ((wrap64 (Int.tdiv i d)) * c))) = t ∧ impl_turnLong.f i b c d = some t := by
  have e : Int.tdiv i d = i / d := Int.tdiv_eq_ediv_of_nonneg h0
  have q0 : 0 ≤ i / d := Int.ediv_nonneg h0 (by omega)
  have q1 : i / d ≤ i := Int.ediv_le_self _ h0
  have m0 : 0 ≤ i / d * c := Int.mul_nonneg q0 hc.1
  have m1 : i / d * c ≤ 200000 * 500 := Int.mul_le_mul (by omega) hc.2 hc.1 (by omega)
  have w1 : wrap64 (i / d) = i / d := wr (by omega) (by omega)
  have w2 : wrap64 (i / d * c) = i / d * c := wr (by omega) (by omega)
  have w3 : wrap64 (b + i / d * c) = b + i / d * c := wr (by omega) (by omega)
  refine ⟨b + i / d * c, by omega, by omega, ?_, ?_⟩
  · rw [e, w1, w2, w3]
  · unfold impl_turnLong.f; rw [if_neg (by omega), e, w1, w2, w3]
theorem turns_loop (b c d : Int) (hb : 1 ≤ b ∧ b ≤ 500) (hc : 0 ≤ c ∧ c ≤ 500) (hd : 1 ≤ d ∧ d ≤ 100) (n : Nat) : ∀ (long i t : Int), 0 ≤ i → 0 ≤ long → long ≤ n → i + long ≤ 100000 → impl_turnLong.f i b c d = some t →
    Same (fun k => spec_BallTurns.l0 k long b c d i) (fun k => impl_BallTurns.l0 k long b c d i t) := by
  induction n with
  | zero =>
    intro long i t h0 hl hn hs ht
    obtain ⟨t', t1, t2, e1, e2⟩ := tl_f i b c d h0 (by omega) hb hc hd
    obtain rfl : t = t' := by rw [ht] at e2; exact Option.some.inj e2
    refine Same.step (g' := fun _ => some (i, long, 0)) (f' := fun _ => some (i, long, 0)) (fun k => ?_) (fun k => ?_) (Same.now _)
    · simp only [spec_BallTurns.l0]; rw [if_neg (by omega), e1, if_neg (by omega)]
    · simp only [impl_BallTurns.l0]; rw [if_neg (by omega)]
  | succ n ih =>
    intro long i t h0 hl hn hs ht
    obtain ⟨t', t1, t2, e1, e2⟩ := tl_f i b c d h0 (by omega) hb hc hd
    obtain rfl : t = t' := by rw [ht] at e2; exact Option.some.inj e2
    by_cases h : t ≤ long
    · obtain ⟨u, u1, u2, e3, e4⟩ := tl_f (i + 1) b c d (by omega) (by omega) hb hc hd
      refine Same.step (fun k => ?_) (fun k => ?_) (ih (long - t) (i + 1) u (by omega) (by omega) (by omega) (by omega) e4)
      · simp only [spec_BallTurns.l0]; rw [if_neg (by omega), e1, if_pos h, wr (n := long - t) (by omega) (by omega), wr (n := i + 1) (by omega) (by omega)]
      · simp only [impl_BallTurns.l0]; rw [if_pos h, wr (n := long - t) (by omega) (by omega), wr (n := i + 1) (by omega) (by omega), e4]; rfl
    · refine Same.step (g' := fun _ => some (i, long, 0)) (f' := fun _ => some (i, long, 0)) (fun k => ?_) (fun k => ?_) (Same.now _)
      · simp only [spec_BallTurns.l0]; rw [if_neg (by omega), e1, if_neg h]
      · simp only [impl_BallTurns.l0]; rw [if_neg h]
theorem spec_ball_f (a b c : Int) : spec_l04Ball.f a b c = some (decide ((1 ≤ a ∧ a ≤ 500) ∧ (0 ≤ b ∧ b ≤ 500) ∧ (1 ≤ c ∧ c ≤ 100))) := by
  unfold spec_l04Ball.f spec_l04Round.f
  simp only [l00In_f, Option.bind_some, if_dec]
  by_cases h1 : 1 ≤ a ∧ a ≤ 500 <;> by_cases h2 : 0 ≤ b ∧ b ≤ 500 <;> simp [h1, h2]
theorem impl_ball_f (a b c : Int) : impl_isBall.f a b c = some (decide ((1 ≤ a ∧ a ≤ 500) ∧ (0 ≤ b ∧ b ≤ 500) ∧ (1 ≤ c ∧ c ≤ 100))) := by
  unfold impl_isBall.f
  simp only [within_f, Option.bind_some, if_dec]
  by_cases h1 : 1 ≤ a ∧ a ≤ 500 <;> by_cases h2 : 0 ≤ b ∧ b ≤ 500 <;> simp [h1, h2]
theorem turns_same (a b c d : Int) : Same (fun k => spec_BallTurns.f k a b c d) (fun k => impl_BallTurns.f k a b c d) := by
  unfold spec_BallTurns.f impl_BallTurns.f spec_l04Long.f
  simp only [l00In_f, within_f, spec_ball_f, impl_ball_f, Option.bind_some, if_dec]
  by_cases h1 : 0 ≤ a ∧ a ≤ 100000
  · by_cases h2 : (1 ≤ b ∧ b ≤ 500) ∧ (0 ≤ c ∧ c ≤ 500) ∧ (1 ≤ d ∧ d ≤ 100)
    · obtain ⟨u, u1, u2, e3, e4⟩ := tl_f 0 b c d (by omega) (by omega) h2.1 h2.2.1 h2.2.2
      simp only [if_pos h1, if_pos h2, decide_eq_true h1, decide_eq_true h2]
      exact Same.step (fun k => by simp [spec_BallTurns.j0]) (fun k => by simp [impl_BallTurns.j0, e4]) (turns_loop b c d h2.1 h2.2.1 h2.2.2 100000 a 0 u (by omega) (by omega) (by omega) (by omega) e4)
    · simp only [if_pos h1, if_neg h2, decide_eq_false h2]
      exact Same.step (fun k => by simp [spec_BallTurns.j0]) (fun k => by simp [impl_BallTurns.j0]) (Same.now (0, 0, 2))
  · by_cases h2 : (1 ≤ b ∧ b ≤ 500) ∧ (0 ≤ c ∧ c ≤ 500) ∧ (1 ≤ d ∧ d ≤ 100)
    · simp only [if_neg h1, if_pos h2, decide_eq_false h1]
      exact Same.step (fun k => by simp [spec_BallTurns.j0]) (fun k => by simp [impl_BallTurns.j0]) (Same.now (0, 0, 2))
    · simp only [if_neg h1, if_neg h2]
      exact Same.step (fun k => by simp [spec_BallTurns.j0]) (fun k => by simp [impl_BallTurns.j0]) (Same.now (0, 0, 2))
theorem FnExactBallTurns : laws_FnExactBallTurns.Pure := by
  intro a b c d _ _ _ _
  obtain ⟨r, h1, h2⟩ := turns_same a b c d
  refine Ev.rounds ?_
  unfold laws_FnExactBallTurns.f
  refine Ev.bind h1 (Ev.bind h2 ?_)
  simp only [if_true]
  exact Ev.now _
end Go.Proofs.Ytpaffbkakgagaaa.Pure
