/- The program's BallLength returns what the reference's returns, for all arguments (64-bit integers). -/
import Derived.Test.YtpaffbkakgagaaaPFnExactBallLengthx1
namespace Go.Proofs.Ytpaffbkakgagaaa.Pure
open Go.RowKit Go.Proofs.Ytpaffbkakgagaaa.PFnExactBallLength Go.Proofs.YtpaffbkakgagaaaW.PrintWords Go.Proofs.YtpaffbkakgagaaaW.PrintLast
set_option linter.unusedVariables false
set_option linter.unusedSimpArgs false
theorem wr {n : Int} (h0 : -9223372036854775808 ≤ n) (h1 : n ≤ 9223372036854775807) : wrap64 n = n := by
  unfold wrap64; omega
theorem wf64 {a : Int} (h : (Lit.int .i64 a).wf = true) : -9223372036854775808 ≤ a ∧ a ≤ 9223372036854775807 := by
  simp only [Lit.wf, IntKind.min, IntKind.max, IntKind.signed, IntKind.bits, Bool.and_eq_true, decide_eq_true_eq, if_true] at h
  omega
theorem ev_id {α : Type} {g : Nat → Option α} {r s : α} (h : Ev g r) (e : r = s) : Ev g s := e ▸ h
theorem ev_const {α : Type} {o : Option α} {r : α} (h : o = some r) : Ev (fun _ => o) r := ⟨0, fun _ _ => h⟩
theorem ev_fun {α : Type} {g : Nat → Option α} {r s : α} (h : Ev g r) (k : Ev g s) : r = s := by
  obtain ⟨a, h⟩ := h
  obtain ⟨b, k⟩ := k
  have x := h (max a b) (by omega)
  have y := k (max a b) (by omega)
  rw [x] at y; exact Option.some.inj y
/-- Both come to one answer. -/
def Same {α : Type} (g f : Nat → Option α) : Prop := ∃ r, Ev g r ∧ Ev f r
theorem Same.step {α : Type} {g f g' f' : Nat → Option α} (hg : ∀ k, g (k + 1) = g' k) (hf : ∀ k, f (k + 1) = f' k) (h : Same g' f') : Same g f := by
  obtain ⟨r, a, b⟩ := h
  exact ⟨r, Ev.step hg a, Ev.step hf b⟩
theorem Same.left {α : Type} {g f g' : Nat → Option α} (hg : ∀ k, g (k + 1) = g' k) (h : Same g' f) : Same g f := by
  obtain ⟨r, a, b⟩ := h
  exact ⟨r, Ev.step hg a, b⟩
theorem Same.right {α : Type} {g f f' : Nat → Option α} (hf : ∀ k, f (k + 1) = f' k) (h : Same g f') : Same g f := by
  obtain ⟨r, a, b⟩ := h
  exact ⟨r, a, Ev.step hf b⟩
theorem Same.now {α : Type} (r : α) : Same (fun _ => some r) (fun _ => some r) := ⟨r, Ev.now r, Ev.now r⟩
theorem if_dec {α : Type} {p : Prop} [Decidable p] (a b : α) : (if decide p = true then a else b) = if p then a else b := by
  by_cases h : p <;> simp [h]
theorem l00In_f (a b c : Int) : spec_l00In.f a b c = some (decide (b ≤ a ∧ a ≤ c)) := by
  unfold spec_l00In.f
  by_cases h : b ≤ a <;> simp [h]
theorem within_f (a b c : Int) : impl_within.f a b c = some (decide (b ≤ a ∧ a ≤ c)) := by
  unfold impl_within.f
  by_cases h : b ≤ a <;> simp [h]
theorem len_loop (x0 x1 x2 x3 : Int) (h3 : x3 ≠ 0) (h0 : x0 ≤ 1000) (d : Nat) : ∀ (acc i : Int), 0 ≤ i → x0 - i ≤ d →
    Same (fun k => spec_BallLength.l0 k x0 x1 x2 x3 acc i) (fun k => impl_BallLength.l0 k x1 x2 x3 acc x0 i) := by
  induction d with
  | zero =>
    intro acc i hi hd
    refine Same.step (g' := fun _ => some (acc, 0)) (f' := fun _ => some (acc, 0)) (fun k => ?_) (fun k => ?_) (Same.now _)
    · simp only [spec_BallLength.l0]; rw [if_neg (by omega)]
    · simp only [impl_BallLength.l0]; rw [if_neg (by omega)]
  | succ d ih =>
    intro acc i hi hd
    by_cases h : i < x0
    · refine Same.step (fun k => ?_) (fun k => ?_) (ih (wrap64 (acc + (wrap64 (x1 + (wrap64 ((wrap64 (Int.tdiv i x3)) * x2)))))) (i + 1) (by omega) (by omega))
      · simp only [spec_BallLength.l0]; rw [if_pos h, if_neg h3, wr (n := i + 1) (by omega) (by omega)]
      · simp only [impl_BallLength.l0, impl_turnLong.f]; rw [if_pos h, if_neg h3, wr (n := i + 1) (by omega) (by omega)]; rfl
    · refine Same.step (g' := fun _ => some (acc, 0)) (f' := fun _ => some (acc, 0)) (fun k => ?_) (fun k => ?_) (Same.now _)
      · simp only [spec_BallLength.l0]; rw [if_neg h]
      · simp only [impl_BallLength.l0]; rw [if_neg h]
theorem spec_ball_f (a b c : Int) : spec_l04Ball.f a b c = some (decide ((1 ≤ a ∧ a ≤ 500) ∧ (0 ≤ b ∧ b ≤ 500) ∧ (1 ≤ c ∧ c ≤ 100))) := by
  unfold spec_l04Ball.f spec_l04Round.f
  simp only [l00In_f, Option.bind_some, if_dec]
  by_cases h1 : 1 ≤ a ∧ a ≤ 500 <;> by_cases h2 : 0 ≤ b ∧ b ≤ 500 <;> simp [h1, h2]
theorem impl_ball_f (a b c : Int) : impl_isBall.f a b c = some (decide ((1 ≤ a ∧ a ≤ 500) ∧ (0 ≤ b ∧ b ≤ 500) ∧ (1 ≤ c ∧ c ≤ 100))) := by
  unfold impl_isBall.f
  simp only [within_f, Option.bind_some, if_dec]
  by_cases h1 : 1 ≤ a ∧ a ≤ 500 <;> by_cases h2 : 0 ≤ b ∧ b ≤ 500 <;> simp [h1, h2]
theorem len_same (a b c d : Int) : Same (fun k => spec_BallLength.f k a b c d) (fun k => impl_BallLength.f k a b c d) := by
  unfold spec_BallLength.f impl_BallLength.f
  simp only [l00In_f, within_f, spec_ball_f, impl_ball_f, Option.bind_some, if_dec]
  by_cases h1 : 0 ≤ a ∧ a ≤ 1000
  · by_cases h2 : (1 ≤ b ∧ b ≤ 500) ∧ (0 ≤ c ∧ c ≤ 500) ∧ (1 ≤ d ∧ d ≤ 100)
    · simp only [if_pos h1, if_pos h2, decide_eq_true h1, decide_eq_true h2]
      exact Same.step (fun k => by simp [spec_BallLength.j0]) (fun k => by simp [impl_BallLength.j0]) (len_loop a b c d (by omega) (by omega) 1000 0 0 (by omega) (by omega))
    · simp only [if_pos h1, if_neg h2, decide_eq_false h2]
      exact Same.step (fun k => by simp [spec_BallLength.j0]) (fun k => by simp [impl_BallLength.j0]) (Same.now (0, 2))
  · by_cases h2 : (1 ≤ b ∧ b ≤ 500) ∧ (0 ≤ c ∧ c ≤ 500) ∧ (1 ≤ d ∧ d ≤ 100)
    · simp only [if_neg h1, if_pos h2, decide_eq_false h1]
      exact Same.step (fun k => by simp [spec_BallLength.j0]) (fun k => by simp [impl_BallLength.j0]) (Same.now (0, 2))
    · simp only [if_neg h1, if_neg h2]
      exact Same.step (fun k => by simp [spec_BallLength.j0]) (fun k => by simp [impl_BallLength.j0]) (Same.now (0, 2))
theorem FnExactBallLength : laws_FnExactBallLength.Pure := by
  intro a b c d _ _ _ _
  obtain ⟨r, h1, h2⟩ := len_same a b c d
  refine Ev.rounds ?_
  unfold laws_FnExactBallLength.f
  refine Ev.bind h1 (Ev.bind h2 ?_)
  simp only [if_true]
  exact Ev.now _
end Go.Proofs.Ytpaffbkakgagaaa.Pure
