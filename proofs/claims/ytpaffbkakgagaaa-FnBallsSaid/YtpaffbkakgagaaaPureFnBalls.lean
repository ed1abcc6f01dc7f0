/- What is wound is as long as told. -/
import Derived.Test.YtpaffbkakgagaaaXFnBallsx4
namespace Go.Proofs.Ytpaffbkakgagaaa.Pure
open Go.RowKit Go.Proofs.Ytpaffbkakgagaaa.XFnBalls Go.Proofs.YtpaffbkakgagaaaW.PrintWords Go.Proofs.YtpaffbkakgagaaaW.PrintLast
set_option linter.unusedVariables false
set_option linter.unusedSimpArgs false
theorem wr {n : Int} (h0 : -9223372036854775808 ≤ n) (h1 : n ≤ 9223372036854775807) : wrap64 n = n := by
  unfold wrap64; omega
theorem wf64 {a : Int} (h : (Lit.int .i64 a).wf = true) : -9223372036854775808 ≤ a ∧ a ≤ 9223372036854775807 := by
  simp only [Lit.wf, IntKind.min, IntKind.max, IntKind.signed, IntKind.bits, Bool.and_eq_true, decide_eq_true_eq, if_true] at h
  omega
theorem ev_id {α : Type} {g : Nat → Option α} {r s : α} (h : Ev g r) (e : r = s) : Ev g s := e ▸ h
theorem ev_const {α : Type} {o : Option α} {r : α} (h : o = some r) : Ev (fun _ => o) r := ⟨0, fun _ _ => h⟩
theorem ev_fun {α : Type} {g : Nat → Option α} {r s : α} (h : Ev g r) (k : Ev g s) : r = s := by
  obtain ⟨a, h⟩ := h
  obtain ⟨b, k⟩ := k
  have x := h (max a b) (by omega)
  have y := k (max a b) (by omega)
  rw [x] at y; exact Option.some.inj y
/-- Both come to one answer. -/
def Same {α : Type} (g f : Nat → Option α) : Prop := ∃ r, Ev g r ∧ Ev f r
theorem Same.step {α : Type} {g f g' f' : Nat → Option α} (hg : ∀ k, g (k + 1) = g' k) (hf : ∀ k, f (k + 1) = f' k) (h : Same g' f') : Same g f := by
  obtain ⟨r, a, b⟩ := h
  exact ⟨r, Ev.step hg a, Ev.step hf b⟩
theorem Same.left {α : Type} {g f g' : Nat → Option α} (hg : ∀ k, g (k + 1) = g' k) (h : Same g' f) : Same g f := by
  obtain ⟨r, a, b⟩ := h
  exact ⟨r, Ev.step hg a, b⟩
theorem Same.right {α : Type} {g f f' : Nat → Option α} (hf : ∀ k, f (k + 1) = f' k) (h : Same g f') : Same g f := by
  obtain ⟨r, a, b⟩ := h
  exact ⟨r, a, Ev.step hf b⟩
theorem Same.now {α : Type} (r : α) : Same (fun _ => some r) (fun _ => some r) := ⟨r, Ev.now r, Ev.now r⟩
theorem if_dec {α : Type} {p : Prop} [Decidable p] (a b : α) : (if decide p = true then a else b) = if p then a else b := by
  by_cases h : p <;> simp [h]
theorem w00 : wrap64 0 = 0 := wr (by omega) (by omega)
theorem l00In_f (a b c : Int) : spec_l00In.f a b c = some (decide (b ≤ a ∧ a ≤ c)) := by
  unfold spec_l00In.f
  by_cases h : b ≤ a <;> simp [h]
theorem within_f (a b c : Int) : impl_within.f a b c = some (decide (b ≤ a ∧ a ≤ c)) := by
  unfold impl_within.f
  by_cases h : b ≤ a <;> simp [h]
theorem tl_f (i b c d : Int) (h0 : 0 ≤ i) (h1 : i ≤ 200000) (hb : 1 ≤ b ∧ b ≤ 500) (hc : 0 ≤ c ∧ c ≤ 500) (hd : 1 ≤ d ∧ d ≤ 100) :
    ∃ t, 1 ≤ t ∧ t ≤ 200000000 ∧ wrap64 (b + (wrap64 ((wrap64 (Int.tdiv i d)) * c))) = t ∧ impl_turnLong.f i b c d = some t := by
  have e : Int.tdiv i d = i / d := Int.tdiv_eq_ediv_of_nonneg h0
  have q0 : 0 ≤ i / d := Int.ediv_nonneg h0 (by omega)
  have q1 : i / d ≤ i := Int.ediv_le_self _ h0
  have m0 : 0 ≤ i / d * c := Int.mul_nonneg q0 hc.1
  have m1 : i / d * c ≤ 200000 * 500 := Int.mul_le_mul (by omega) hc.2 hc.1 (by omega)
  have w1 : wrap64 (i / d) = i / d := wr (by omega) (by omega)
  have w2 : wrap64 (i / d * c) = i / d * c := wr (by omega) (by omega)
  have w3 : wrap64 (b + i / d * c) = b + i / d * c := wr (by omega) (by omega)
  refine ⟨b + i / d * c, by omega, by omega, ?_, ?_⟩
  · rw [e, w1, w2, w3]
  · unfold impl_turnLong.f; rw [if_neg (by omega), e, w1, w2, w3]
theorem turns_loop (b c d : Int) (hb : 1 ≤ b ∧ b ≤ 500) (hc : 0 ≤ c ∧ c ≤ 500) (hd : 1 ≤ d ∧ d ≤ 100) (n : Nat) : ∀ (long i t : Int), 0 ≤ i → 0 ≤ long → long ≤ n → i + long ≤ 100000 → impl_turnLong.f i b c d = some t →
    Same (fun k => spec_BallTurns.l0 k long b c d i) (fun k => impl_BallTurns.l0 k long b c d i t) := by
  induction n with
  | zero =>
    intro long i t h0 hl hn hs ht
    obtain ⟨t', t1, t2, e1, e2⟩ := tl_f i b c d h0 (by omega) hb hc hd
    obtain rfl : t = t' := by rw [ht] at e2; exact Option.some.inj e2
    refine Same.step (g' := fun _ => some (i, long, 0)) (f' := fun _ => some (i, long, 0)) (fun k => ?_) (fun k => ?_) (Same.now _)
    · simp only [spec_BallTurns.l0]; rw [if_neg (by omega), e1, if_neg (by omega)]
    · simp only [impl_BallTurns.l0]; rw [if_neg (by omega)]
  | succ n ih =>
    intro long i t h0 hl hn hs ht
    obtain ⟨t', t1, t2, e1, e2⟩ := tl_f i b c d h0 (by omega) hb hc hd
    obtain rfl : t = t' := by rw [ht] at e2; exact Option.some.inj e2
    by_cases h : t ≤ long
    · obtain ⟨u, u1, u2, e3, e4⟩ := tl_f (i + 1) b c d (by omega) (by omega) hb hc hd
      refine Same.step (fun k => ?_) (fun k => ?_) (ih (long - t) (i + 1) u (by omega) (by omega) (by omega) (by omega) e4)
      · simp only [spec_BallTurns.l0]; rw [if_neg (by omega), e1, if_pos h, wr (n := long - t) (by omega) (by omega), wr (n := i + 1) (by omega) (by omega)]
      · simp only [impl_BallTurns.l0]; rw [if_pos h, wr (n := long - t) (by omega) (by omega), wr (n := i + 1) (by omega) (by omega), e4]; rfl
    · refine Same.step (g' := fun _ => some (i, long, 0)) (f' := fun _ => some (i, long, 0)) (fun k => ?_) (fun k => ?_) (Same.now _)
      · simp only [spec_BallTurns.l0]; rw [if_neg (by omega), e1, if_neg h]
      · simp only [impl_BallTurns.l0]; rw [if_neg h]
theorem spec_ball_f (a b c : Int) : spec_l04Ball.f a b c = some (decide ((1 ≤ a ∧ a ≤ 500) ∧ (0 ≤ b ∧ b ≤ 500) ∧ (1 ≤ c ∧ c ≤ 100))) := by
  unfold spec_l04Ball.f spec_l04Round.f
  simp only [l00In_f, Option.bind_some, if_dec]
  by_cases h1 : 1 ≤ a ∧ a ≤ 500 <;> by_cases h2 : 0 ≤ b ∧ b ≤ 500 <;> simp [h1, h2]
theorem impl_ball_f (a b c : Int) : impl_isBall.f a b c = some (decide ((1 ≤ a ∧ a ≤ 500) ∧ (0 ≤ b ∧ b ≤ 500) ∧ (1 ≤ c ∧ c ≤ 100))) := by
  unfold impl_isBall.f
  simp only [within_f, Option.bind_some, if_dec]
  by_cases h1 : 1 ≤ a ∧ a ≤ 500 <;> by_cases h2 : 0 ≤ b ∧ b ≤ 500 <;> simp [h1, h2]
theorem turns_same (a b c d : Int) : Same (fun k => spec_BallTurns.f k a b c d) (fun k => impl_BallTurns.f k a b c d) := by
  unfold spec_BallTurns.f impl_BallTurns.f spec_l04Long.f
  simp only [l00In_f, within_f, spec_ball_f, impl_ball_f, Option.bind_some, if_dec]
  by_cases h1 : 0 ≤ a ∧ a ≤ 100000
  · by_cases h2 : (1 ≤ b ∧ b ≤ 500) ∧ (0 ≤ c ∧ c ≤ 500) ∧ (1 ≤ d ∧ d ≤ 100)
    · obtain ⟨u, u1, u2, e3, e4⟩ := tl_f 0 b c d (by omega) (by omega) h2.1 h2.2.1 h2.2.2
      simp only [if_pos h1, if_pos h2, decide_eq_true h1, decide_eq_true h2]
      exact Same.step (fun k => by simp [spec_BallTurns.j0]) (fun k => by simp [impl_BallTurns.j0, e4]) (turns_loop b c d h2.1 h2.2.1 h2.2.2 100000 a 0 u (by omega) (by omega) (by omega) (by omega) e4)
    · simp only [if_pos h1, if_neg h2, decide_eq_false h2]
      exact Same.step (fun k => by simp [spec_BallTurns.j0]) (fun k => by simp [impl_BallTurns.j0]) (Same.now (0, 0, 2))
  · by_cases h2 : (1 ≤ b ∧ b ≤ 500) ∧ (0 ≤ c ∧ c ≤ 500) ∧ (1 ≤ d ∧ d ≤ 100)
    · simp only [if_neg h1, if_pos h2, decide_eq_false h1]
      exact Same.step (fun k => by simp [spec_BallTurns.j0]) (fun k => by simp [impl_BallTurns.j0]) (Same.now (0, 0, 2))
    · simp only [if_neg h1, if_neg h2]
      exact Same.step (fun k => by simp [spec_BallTurns.j0]) (fun k => by simp [impl_BallTurns.j0]) (Same.now (0, 0, 2))
theorem ties_loop (t e : Int) (ht : 0 ≤ t ∧ t ≤ 1000) (he : 1 ≤ e ∧ e ≤ 1000) (d : Nat) : ∀ (out : List Int) (n m : Int), out.length ≤ n → 1 ≤ n → n ≤ t → (t - n).toNat = d → n ≤ m → m < n + e → m % e = 0 →
    ∃ r : List Int, Ev (fun k => spec_TiesFor.l0 k t e out n) (r, 0) ∧ Ev (fun k => impl_TiesFor.l0 k t e out m) (r, 0) ∧ r.length ≤ t + 1 := by
  induction d with
  | zero =>
    intro out n m hl h1 h2 hd hm1 hm2 hm
    have hn : n = t := by omega
    have hmod : Int.tmod n e = n % e := Int.tmod_eq_emod_of_nonneg (by omega)
    refine ⟨out ++ [t], Ev.step (f := fun k => spec_TiesFor.l0 k t e (out ++ [t]) (n + 1)) (fun k => ?_) (Ev.step (f := fun _ => some (out ++ [t], 0)) (fun k => ?_) (Ev.now _)), Ev.step (f := fun _ => some (out ++ [t], 0)) (fun k => ?_) (Ev.now _), by simp; omega⟩
    · simp only [spec_TiesFor.l0]
      rw [if_pos h2, if_neg (by omega), wr (n := n + 1) (by omega) (by omega)]
      subst hn
      by_cases hz : Int.tmod n e = 0
      · rw [if_pos hz, if_pos (by omega)]
      · rw [if_neg hz, if_pos rfl, if_pos (by omega)]
    · simp only [spec_TiesFor.l0]
      rw [if_neg (by omega)]
    · simp only [impl_TiesFor.l0]
      rw [if_neg (by omega), if_pos (by omega), if_pos (by omega)]
  | succ d ih =>
    intro out n m hl h1 h2 hd hm1 hm2 hm
    have hmod : Int.tmod n e = n % e := Int.tmod_eq_emod_of_nonneg (by omega)
    have hnt : n < t := by omega
    by_cases hz : n % e = 0
    · have hmn : m = n := by
        obtain ⟨q, hq⟩ := Int.dvd_of_emod_eq_zero hz
        obtain ⟨p, hp⟩ := Int.dvd_of_emod_eq_zero hm
        have : e * (p - q) = m - n := by rw [Int.mul_sub]; omega
        by_cases hpq : p - q ≤ 0
        · have : e * (p - q) ≤ 0 := Int.mul_nonpos_of_nonneg_of_nonpos (by omega) hpq
          omega
        · have : e * 1 ≤ e * (p - q) := Int.mul_le_mul_of_nonneg_left (by omega) (by omega)
          omega
      subst hmn
      obtain ⟨r, h3, h4, h5⟩ := ih (out ++ [m]) (m + 1) (m + e) (by simp; omega) (by omega) (by omega) (by omega) (by omega) (by omega) (by rw [Int.add_emod]; simp [hz])
      refine ⟨r, Ev.step (fun k => ?_) h3, Ev.step (fun k => ?_) h4, h5⟩
      · simp only [spec_TiesFor.l0]
        rw [if_pos h2, if_neg (by omega), wr (n := m + 1) (by omega) (by omega), if_pos (by omega), if_pos (by omega)]
      · simp only [impl_TiesFor.l0]
        rw [if_pos hnt, if_pos (by omega), wr (n := m + e) (by omega) (by omega)]
    · have hmn : m ≠ n := fun h => hz (h ▸ hm)
      by_cases hme : m < n + 1 + e
      · obtain ⟨r, h3, h4, h5⟩ := ih out (n + 1) m (by omega) (by omega) (by omega) (by omega) (by omega) hme hm
        refine ⟨r, Ev.step (fun k => ?_) h3, h4, h5⟩
        simp only [spec_TiesFor.l0]
        rw [if_pos h2, if_neg (by omega), wr (n := n + 1) (by omega) (by omega), if_neg (by omega), if_neg (by omega)]
      · omega
theorem ties_same (a b : Int) : ∃ r : List Int × Int, Ev (fun k => spec_TiesFor.f k a b) r ∧ Ev (fun k => impl_TiesFor.f k a b) r ∧ (r.1.length : Int) ≤ 1001 := by
  unfold spec_TiesFor.f impl_TiesFor.f
  simp only [l00In_f, within_f, Option.bind_some, if_dec]
  by_cases h1 : 0 ≤ a ∧ a ≤ 1000
  · by_cases h2 : 1 ≤ b ∧ b ≤ 1000
    · simp only [if_pos h1, decide_eq_true h2]
      by_cases h3 : a = 0
      · refine ⟨([], 0), Ev.step (fun k => by simp [spec_TiesFor.j0]; rfl) (Ev.step (f := fun _ => some ([], 0)) (fun k => ?_) (Ev.now _)), Ev.step (fun k => by simp [impl_TiesFor.j0]; rfl) (Ev.step (f := fun _ => some ([], 0)) (fun k => ?_) (Ev.now _)), by simp⟩
        · simp only [spec_TiesFor.l0]; rw [if_neg (by omega)]
        · simp only [impl_TiesFor.l0]; rw [if_neg (by omega), if_neg (by omega)]
      · obtain ⟨r, e1, e2, e3⟩ := ties_loop a b h1 h2 _ [] 1 b (by simp) (by omega) (by omega) rfl (by omega) (by omega) (by simp)
        exact ⟨(r, 0), Ev.step (fun k => by simp [spec_TiesFor.j0]) e1, Ev.step (fun k => by simp [impl_TiesFor.j0]) e2, by simp only; omega⟩
    · simp only [if_pos h1, decide_eq_false h2]
      exact ⟨([], 2), Ev.step (f := fun _ => some ([], 2)) (fun k => by simp [spec_TiesFor.j0]) (Ev.now _), Ev.step (f := fun _ => some ([], 2)) (fun k => by simp [impl_TiesFor.j0]) (Ev.now _), by simp⟩
  · simp only [if_neg h1]
    exact ⟨([], 2), Ev.step (f := fun _ => some ([], 2)) (fun k => by simp [spec_TiesFor.j0]) (Ev.now _), Ev.step (f := fun _ => some ([], 2)) (fun k => by simp [impl_TiesFor.j0]) (Ev.now _), by simp⟩
theorem a2Long_f (l m : List Int) : laws_a2Long.f l m = some (decide ((l.length : Int) > 3000 ∨ (m.length : Int) > 3000)) := by
  unfold laws_a2Long.f
  by_cases h : (l.length : Int) > 3000 <;> simp [h]
theorem u8 {x : Int} (h : (Lit.int .u8 x).wf = true) : 0 ≤ x ∧ x ≤ 255 := by
  simp only [Lit.wf, IntKind.min, IntKind.max, IntKind.signed, IntKind.bits, Bool.and_eq_true, decide_eq_true_eq, Bool.false_eq_true, if_false] at h
  omega
theorem a2At_f (l : List Int) (i m : Int) (hl : ∀ x ∈ l, (Lit.int .u8 x).wf = true) (h0 : 0 ≤ i) (h1 : 1 ≤ m) : ∃ t, laws_a2At.f l i m = some t ∧ 0 ≤ t ∧ t < m ∧ t ≤ 255 := by
  unfold laws_a2At.f
  by_cases h : i ≥ (l.length : Int)
  · exact ⟨0, by rw [if_pos h], by omega, by omega, by omega⟩
  · have hi : i.toNat < l.length := by omega
    have e : rd l i = l[i.toNat] := by unfold rd; simp [List.getD, hi]
    have hb := u8 (hl l[i.toNat] (List.getElem_mem _))
    have w : wrap64 (rd l i) = rd l i := by rw [e]; exact wr (by omega) (by omega)
    have t0 : Int.tmod (rd l i) m = rd l i % m := Int.tmod_eq_emod_of_nonneg (by rw [e]; omega)
    refine ⟨rd l i % m, by rw [if_neg h, if_neg (by omega), if_pos h0, if_pos (by omega), if_neg (by omega), w, t0], Int.emod_nonneg _ (by omega), Int.emod_lt_of_pos _ (by omega), ?_⟩
    have q : 0 ≤ rd l i / m := Int.ediv_nonneg (by rw [e]; omega) (by omega)
    have := Int.emod_add_mul_ediv (rd l i) m
    have : 0 ≤ m * (rd l i / m) := Int.mul_nonneg (by omega) q
    omega
/-- How long the turn i is. -/
def tL (b c d i : Int) : Int := b + i / d * c
/-- m turns, from the turn i on. -/
def tS (b c d : Int) : Int → Nat → Int
  | _, 0 => 0
  | i, m + 1 => tL b c d i + tS b c d (i + 1) m
theorem tS_end (b c d : Int) : ∀ (m : Nat) (i : Int), tS b c d i (m + 1) = tS b c d i m + tL b c d (i + m)
  | 0, i => by simp [tS]
  | m + 1, i => by
    have := tS_end b c d m (i + 1)
    rw [tS, this, tS, show i + 1 + (m : Int) = i + ((m + 1 : Nat) : Int) by omega]; omega
theorem tL_f (i b c d : Int) (h0 : 0 ≤ i) (h1 : i ≤ 200000) (hb : 1 ≤ b ∧ b ≤ 500) (hc : 0 ≤ c ∧ c ≤ 500) (hd : 1 ≤ d ∧ d ≤ 100) :
    1 ≤ tL b c d i ∧ tL b c d i ≤ 200000000 ∧ impl_turnLong.f i b c d = some (tL b c d i) := by
  have e : Int.tdiv i d = i / d := Int.tdiv_eq_ediv_of_nonneg h0
  have q0 : 0 ≤ i / d := Int.ediv_nonneg h0 (by omega)
  have q1 : i / d ≤ i := Int.ediv_le_self _ h0
  have m0 : 0 ≤ i / d * c := Int.mul_nonneg q0 hc.1
  have m1 : i / d * c ≤ 200000 * 500 := Int.mul_le_mul (by omega) hc.2 hc.1 (by omega)
  have w1 : wrap64 (i / d) = i / d := wr (by omega) (by omega)
  have w2 : wrap64 (i / d * c) = i / d * c := wr (by omega) (by omega)
  have w3 : wrap64 (b + i / d * c) = b + i / d * c := wr (by omega) (by omega)
  unfold tL
  refine ⟨by omega, by omega, ?_⟩
  unfold impl_turnLong.f; rw [if_neg (by omega), e, w1, w2, w3]
theorem bt_loop (b c d : Int) (hb : 1 ≤ b ∧ b ≤ 500) (hc : 0 ≤ c ∧ c ≤ 500) (hd : 1 ≤ d ∧ d ≤ 100) (n : Nat) : ∀ (long i t : Int), 0 ≤ i → 0 ≤ long → long ≤ n → i + long ≤ 100000 → t = tL b c d i →
    ∃ (m : Nat) (less : Int), Ev (fun k => impl_BallTurns.l0 k long b c d i t) (i + m, less, 0) ∧ tS b c d i m + less = long ∧ 0 ≤ less ∧ less < tL b c d (i + m) ∧ i + m ≤ 100000 := by
  induction n with
  | zero =>
    intro long i t h0 hl hn hs ht
    obtain ⟨t1, t2, e2⟩ := tL_f i b c d h0 (by omega) hb hc hd
    refine ⟨0, long, ?_, by simp [tS], hl, by simp; omega, by simp; omega⟩
    refine Ev.step (f := fun _ => some (i + (0 : Nat), long, 0)) (fun k => ?_) (Ev.now _)
    simp only [impl_BallTurns.l0]; rw [if_neg (by omega)]; simp
  | succ n ih =>
    intro long i t h0 hl hn hs ht
    obtain ⟨t1, t2, e2⟩ := tL_f i b c d h0 (by omega) hb hc hd
    by_cases h : t ≤ long
    · obtain ⟨u1, u2, e4⟩ := tL_f (i + 1) b c d (by omega) (by omega) hb hc hd
      obtain ⟨m, less, h1, h2, h3, h4, h5⟩ := ih (long - t) (i + 1) _ (by omega) (by omega) (by omega) (by omega) rfl
      have ei : i + 1 + (m : Int) = i + ((m + 1 : Nat) : Int) := by omega
      rw [ei] at h1 h4 h5
      refine ⟨m + 1, less, Ev.step (fun k => ?_) h1, ?_, h3, h4, h5⟩
      · simp only [impl_BallTurns.l0]; rw [if_pos h, wr (n := long - t) (by omega) (by omega), wr (n := i + 1) (by omega) (by omega), e4]; rfl
      · rw [tS, ← ht]; omega
    · refine ⟨0, long, ?_, by simp [tS], hl, by simp; omega, by simp; omega⟩
      refine Ev.step (f := fun _ => some (i + (0 : Nat), long, 0)) (fun k => ?_) (Ev.now _)
      simp only [impl_BallTurns.l0]; rw [if_neg h]; simp
theorem bl_loop (b c d : Int) (hb : 1 ≤ b ∧ b ≤ 500) (hc : 0 ≤ c ∧ c ≤ 500) (hd : 1 ≤ d ∧ d ≤ 100) (m : Nat) : ∀ (acc i : Int), 0 ≤ i → i + m ≤ 1000 → 0 ≤ acc → acc ≤ 200000000 * i →
    Ev (fun k => impl_BallLength.l0 k b c d acc (i + m) i) (acc + tS b c d i m, 0) := by
  induction m with
  | zero =>
    intro acc i h0 h1 h2 h3
    refine Ev.step (f := fun _ => some (acc, 0)) (fun k => ?_) (ev_id (Ev.now _) (by simp [tS]))
    simp only [impl_BallLength.l0]; rw [if_neg (by omega)]
  | succ m ih =>
    intro acc i h0 h1 h2 h3
    obtain ⟨t1, t2, e2⟩ := tL_f i b c d h0 (by omega) hb hc hd
    have := ih (acc + tL b c d i) (i + 1) (by omega) (by omega) (by omega) (by omega)
    rw [show i + 1 + (m : Int) = i + ((m + 1 : Nat) : Int) by omega] at this
    refine Ev.step (fun k => ?_) (ev_id this (by rw [tS, Int.add_assoc]))
    simp only [impl_BallLength.l0]
    rw [if_pos (by omega), e2, wr (n := i + 1) (by omega) (by omega)]
    simp only [Option.bind_some]
    rw [wr (n := acc + tL b c d i) (by omega) (by omega)]
theorem bl_ev (n : Nat) (b c d : Int) (hb : 1 ≤ b ∧ b ≤ 500) (hc : 0 ≤ c ∧ c ≤ 500) (hd : 1 ≤ d ∧ d ≤ 100) (hn : n ≤ 1000) : Ev (fun k => impl_BallLength.f k (n : Int) b c d) (tS b c d 0 n, 0) := by
  unfold impl_BallLength.f
  have h1 : 0 ≤ (n : Int) ∧ (n : Int) ≤ 1000 := by omega
  have h2 : (1 ≤ b ∧ b ≤ 500) ∧ (0 ≤ c ∧ c ≤ 500) ∧ (1 ≤ d ∧ d ≤ 100) := ⟨hb, hc, hd⟩
  simp only [impl_ball_f, within_f, Option.bind_some, if_dec, if_pos h2, decide_eq_true h1]
  have := bl_loop b c d hb hc hd n 0 0 (by omega) (by omega) (by omega) (by omega)
  rw [Int.zero_add, Int.zero_add] at this
  exact Ev.step (fun k => by simp [impl_BallLength.j0]) this
theorem bt_ev (long b c d : Int) (hl : 0 ≤ long ∧ long ≤ 100000) (hb : 1 ≤ b ∧ b ≤ 500) (hc : 0 ≤ c ∧ c ≤ 500) (hd : 1 ≤ d ∧ d ≤ 100) :
    ∃ (m : Nat) (less : Int), Ev (fun k => impl_BallTurns.f k long b c d) ((m : Int), less, 0) ∧ Ev (fun k => spec_BallTurns.f k long b c d) ((m : Int), less, 0) ∧ tS b c d 0 m + less = long ∧ 0 ≤ less ∧ less < tL b c d m ∧ (m : Int) ≤ 100000 := by
  have h2 : (1 ≤ b ∧ b ≤ 500) ∧ (0 ≤ c ∧ c ≤ 500) ∧ (1 ≤ d ∧ d ≤ 100) := ⟨hb, hc, hd⟩
  obtain ⟨t1, t2, e2⟩ := tL_f 0 b c d (by omega) (by omega) hb hc hd
  obtain ⟨m, less, h3, h4, h5, h6, h7⟩ := bt_loop b c d hb hc hd 100000 long 0 _ (by omega) (by omega) (by omega) (by omega) rfl
  rw [Int.zero_add] at h3 h6 h7
  have hi : Ev (fun k => impl_BallTurns.f k long b c d) ((m : Int), less, 0) := by
    unfold impl_BallTurns.f
    simp only [impl_ball_f, within_f, Option.bind_some, if_dec, if_pos h2, decide_eq_true hl]
    exact Ev.step (fun k => by simp [impl_BallTurns.j0, e2]) h3
  obtain ⟨r, r1, r2⟩ := turns_same long b c d
  have := ev_fun r2 hi
  subst this
  exact ⟨m, less, hi, r1, h4, h5, h6, h7⟩
/-- The ties: one behind each e turns, and one at the end. -/
def tieL (t e : Int) (n : Nat) : List Int := (List.range n).map fun (k : Nat) => mn t (e * ((k : Int) + 1))
theorem tieL_succ (t e : Int) (n : Nat) : tieL t e (n + 1) = tieL t e n ++ [mn t (e * ((n : Int) + 1))] := by
  unfold tieL; rw [List.range_succ, List.map_append]; rfl
theorem tieL_len (t e : Int) (n : Nat) : (tieL t e n).length = n := by unfold tieL; simp
theorem ceil_eq (t e : Int) (q : Int) (he : 1 ≤ e) (h1 : e * q < t) (h2 : t ≤ e * (q + 1)) : (t + e - 1) / e = q + 1 := by
  have a : q + 1 ≤ (t + e - 1) / e := Int.le_ediv_of_mul_le (by omega) (by rw [Int.add_mul, Int.mul_comm q e]; omega)
  have b : (t + e - 1) / e < q + 2 := Int.ediv_lt_of_lt_mul (by omega) (by
    have : (q + 2) * e = e * (q + 1) + e := by rw [Int.mul_comm, Int.mul_add, Int.mul_add]; omega
    omega)
  omega
theorem tie_loop (t e : Int) (ht : 0 ≤ t ∧ t ≤ 1000) (he : 1 ≤ e ∧ e ≤ 1000) (d : Nat) : ∀ (q : Nat), (t - e * q).toNat ≤ d → (q = 0 ∨ e * q < t) →
    ∃ n : Nat, (n : Int) = (t + e - 1) / e ∧ Ev (fun k => impl_TiesFor.l0 k t e (tieL t e q) (e * ((q : Int) + 1))) (tieL t e n, 0) := by
  have small : ∀ q : Nat, (q = 0 ∨ e * q < t) → (q : Int) ≤ 1000 := by
    intro q h
    rcases h with rfl | h
    · simp
    · have : 1 * (q : Int) ≤ e * q := Int.mul_le_mul_of_nonneg_right he.1 (by omega)
      omega
  have stop : ∀ q : Nat, (q = 0 ∨ e * q < t) → ¬ e * ((q : Int) + 1) < t → ∃ n : Nat, (n : Int) = (t + e - 1) / e ∧ Ev (fun k => impl_TiesFor.l0 k t e (tieL t e q) (e * ((q : Int) + 1))) (tieL t e n, 0) := by
    intro q hq hn
    by_cases h0 : t > 0
    · have hlt : e * (q : Int) < t := by
        rcases hq with rfl | h
        · simp; omega
        · exact h
      refine ⟨q + 1, ?_, Ev.step (f := fun _ => some (tieL t e (q + 1), 0)) (fun k => ?_) (Ev.now _)⟩
      · rw [ceil_eq t e q he.1 hlt (by omega)]; simp
      · have := small q hq
        simp only [impl_TiesFor.l0]
        rw [if_neg hn, if_pos h0, if_pos (by rw [tieL_len]; omega), tieL_succ]
        congr 4
        unfold mn
        split <;> omega
    · have : q = 0 := by
        rcases hq with h | h
        · exact h
        · have : 0 ≤ e * (q : Int) := Int.mul_nonneg (by omega) (by omega)
          omega
      subst this
      refine ⟨0, ?_, Ev.step (f := fun _ => some (tieL t e 0, 0)) (fun k => ?_) (Ev.now _)⟩
      · rw [show t = 0 by omega]; rw [Int.ediv_eq_zero_of_lt (by omega) (by omega)]; rfl
      · simp only [impl_TiesFor.l0]
        rw [if_neg hn, if_neg h0]
  induction d with
  | zero =>
    intro q hd hq
    refine stop q hq ?_
    rw [Int.mul_add]; omega
  | succ d ih =>
    intro q hd hq
    by_cases h : e * ((q : Int) + 1) < t
    · have e1 : e * ((q + 1 : Nat) : Int) = e * ((q : Int) + 1) := by congr 1
      have e2 : e * ((q : Int) + 1) = e * q + e := by rw [Int.mul_add]; omega
      obtain ⟨n, n1, n2⟩ := ih (q + 1) (by omega) (.inr (by omega))
      refine ⟨n, n1, Ev.step (fun k => ?_) n2⟩
      have := small q hq
      have e3 : e * (((q + 1 : Nat) : Int) + 1) = e * ((q : Int) + 1) + e := by rw [Int.mul_add, e1]; omega
      have hp : 0 ≤ e * (q : Int) := Int.mul_nonneg (by omega) (by omega)
      simp only [impl_TiesFor.l0]
      rw [if_pos h, if_pos (by rw [tieL_len]; omega), tieL_succ, e3, wr (n := e * ((q : Int) + 1) + e) (by omega) (by omega)]
      congr 4
      unfold mn
      split <;> omega
    · exact stop q hq h
theorem tie_ev (t e : Int) (ht : 0 ≤ t ∧ t ≤ 1000) (he : 1 ≤ e ∧ e ≤ 1000) :
    ∃ n : Nat, (n : Int) = (t + e - 1) / e ∧ Ev (fun k => impl_TiesFor.f k t e) (tieL t e n, 0) ∧ Ev (fun k => spec_TiesFor.f k t e) (tieL t e n, 0) := by
  obtain ⟨n, n1, n2⟩ := tie_loop t e ht he (t - e * (0 : Nat)).toNat 0 (Nat.le_refl _) (.inl rfl)
  have hi : Ev (fun k => impl_TiesFor.f k t e) (tieL t e n, 0) := by
    unfold impl_TiesFor.f
    simp only [within_f, Option.bind_some, if_dec, if_pos ht, decide_eq_true he]
    refine Ev.step (fun k => by simp only [impl_TiesFor.j0, Bool.not_true, Bool.false_eq_true, if_false]; rfl) ?_
    have z : tieL t e 0 = [] := rfl
    rw [z] at n2
    simpa using n2
  obtain ⟨r, r1, r2, _⟩ := ties_same t e
  have := ev_fun r2 hi
  subst this
  exact ⟨n, n1, hi, r1⟩
theorem same_loop (a : List Int) (hn : (a.length : Int) ≤ 4611686018427387904) (d : Nat) : ∀ (i : Nat), i + d = a.length →
    Ev (fun k => spec_l00Same.l0 k a a (i : Int)) true := by
  induction d with
  | zero =>
    intro i hi
    refine Ev.step (f := fun _ => some true) (fun k => ?_) (Ev.now _)
    simp only [spec_l00Same.l0]; rw [if_neg (by omega)]
  | succ d ih =>
    intro i hi
    refine Ev.step (fun k => ?_) (ih (i + 1) (by omega))
    simp only [spec_l00Same.l0, if_true]
    rw [if_pos (by omega), if_pos (by omega), if_pos (by omega), wr (n := (i : Int) + 1) (by omega) (by omega)]; rfl
theorem A2Same_self (a : List Int) (hn : (a.length : Int) ≤ 4611686018427387904) : Ev (fun k => spec_A2Same.f k a a) true := by
  unfold spec_A2Same.f spec_l00Same.f
  simp only [if_true]
  exact Ev.bind (same_loop a hn a.length 0 (by omega)) (Ev.now _)
theorem law_loop (t e : Int) (ht : 0 ≤ t ∧ t ≤ 1000) (he : 1 ≤ e ∧ e ≤ 1000) (n : Nat) (hn : n ≤ 2000) (d : Nat) : ∀ (i : Nat), i + d = n →
    Ev (fun k => laws_FnBalls.l0 k t e (tieL t e n) (i : Int)) true := by
  induction d with
  | zero =>
    intro i hi
    refine Ev.step (f := fun _ => some true) (fun k => ?_) (Ev.now _)
    simp only [laws_FnBalls.l0, tieL_len]; rw [if_neg (by omega)]
  | succ d ih =>
    intro i hi
    have hil : i < (tieL t e n).length := by rw [tieL_len]; omega
    have er : rd (tieL t e n) (i : Int) = mn t (e * ((i : Int) + 1)) := by
      have hin : i < n := by omega
      unfold rd tieL; simp [List.getD, hin]
    have b0 : 0 ≤ e * ((i : Int) + 1) := Int.mul_nonneg (by omega) (by omega)
    have b1 : e * ((i : Int) + 1) ≤ 1000 * 2000 := Int.mul_le_mul he.2 (by omega) (by omega) (by omega)
    refine Ev.step (fun k => ?_) (ih (i + 1) (by omega))
    simp only [laws_FnBalls.l0, tieL_len]
    rw [if_pos (by omega), if_pos (by omega), er, wr (n := (i : Int) + 1) (by omega) (by omega), wr (n := e * ((i : Int) + 1)) (by omega) (by omega), if_pos rfl]; rfl
theorem turnsFor_f (a b : Int) (h1 : 0 ≤ a ∧ a ≤ 100000) (h2 : 1 ≤ b ∧ b ≤ 500) : impl_TurnsFor.f a b = some (a / b, a % b, 0) ∧ spec_TurnsFor.f a b = some (a / b, a % b, 0) := by
  have d : Int.tdiv a b = a / b := Int.tdiv_eq_ediv_of_nonneg h1.1
  have m : Int.tmod a b = a % b := Int.tmod_eq_emod_of_nonneg h1.1
  have q0 : 0 ≤ a / b := Int.ediv_nonneg h1.1 (by omega)
  have q1 : a / b ≤ a := Int.ediv_le_self _ h1.1
  have h3 : ¬ b = 0 := by omega
  unfold spec_TurnsFor.f impl_TurnsFor.f spec_l04Long.f spec_l04Round.f
  simp only [l00In_f, within_f, Option.bind_some, if_dec, if_pos h1, if_pos h2, if_neg h3, d, m]
  rw [wr (n := a / b) (by omega) (by omega)]
  exact ⟨rfl, rfl⟩
theorem FnBalls_tail (m : List Int) (hm : ∀ x ∈ m, (Lit.int .u8 x).wf = true) : Ev (fun k => laws_FnBalls.j2 k m) true := by
  obtain ⟨t, e1, t0, t1, _⟩ := a2At_f m 1 60 hm (by omega) (by omega)
  obtain ⟨e, e2, f0, f1, _⟩ := a2At_f m 2 9 hm (by omega) (by omega)
  have w : wrap64 (1 + e) = 1 + e := wr (by omega) (by omega)
  obtain ⟨n, n1, n2, n3⟩ := tie_ev t (1 + e) (by omega) (by omega)
  have hq0 : 0 ≤ (t + (1 + e) - 1) / (1 + e) := Int.ediv_nonneg (by omega) (by omega)
  have hq1 : (t + (1 + e) - 1) / (1 + e) ≤ t + (1 + e) - 1 := Int.ediv_le_self _ (by omega)
  have hl : ((tieL t (1 + e) n).length : Int) ≤ 4611686018427387904 := by rw [tieL_len]; omega
  refine Ev.step (fun k => by simp only [laws_FnBalls.j2, e1, e2, Option.bind_some, w]; rfl) (Ev.bind n2 (Ev.bind n3 ?_))
  simp only [if_true]
  refine Ev.bind (A2Same_self _ hl) ?_
  have hz : ¬ (1 + e = 0) := by omega
  have wv : wrap64 (Int.tdiv (wrap64 (wrap64 (t + (1 + e)) - 1)) (1 + e)) = (n : Int) := by
    rw [wr (n := t + (1 + e)) (by omega) (by omega), wr (n := t + (1 + e) - 1) (by omega) (by omega), Int.tdiv_eq_ediv_of_nonneg (by omega), ← n1, wr (by omega) (by omega)]
  simp only [if_true, if_neg hz, wv, tieL_len, bne_self_eq_false]
  exact Ev.step (fun k => by simp only [laws_FnBalls.j3, Bool.false_eq_true, if_false]; rfl) (law_loop t (1 + e) (by omega) (by omega) n (by omega) n 0 (by omega))
theorem FnBalls : laws_FnBalls.Pure := by
  intro l m ⟨_, hl⟩ ⟨_, hm⟩
  refine Ev.rounds ?_
  unfold laws_FnBalls.f
  simp only [a2Long_f, Option.bind_some, if_dec]
  by_cases hL : (l.length : Int) > 3000 ∨ (m.length : Int) > 3000
  · simp only [if_pos hL]; exact Ev.now _
  · simp only [if_neg hL]
    obtain ⟨a, e1, a0, a1, a2⟩ := a2At_f l 0 256 hl (by omega) (by omega)
    obtain ⟨b, e2, b0, b1, _⟩ := a2At_f l 1 20 hl (by omega) (by omega)
    obtain ⟨s, e3, s0, s1, _⟩ := a2At_f l 2 40 hl (by omega) (by omega)
    obtain ⟨g, e4, g0, g1, _⟩ := a2At_f l 3 8 hl (by omega) (by omega)
    obtain ⟨y, e5, y0, y1, _⟩ := a2At_f l 4 9 hl (by omega) (by omega)
    obtain ⟨r, e6, r0, r1, _⟩ := a2At_f m 0 200 hm (by omega) (by omega)
    have w1 : wrap64 (wrap64 (20 * a) + b) = 20 * a + b := by rw [wr (n := 20 * a) (by omega) (by omega), wr (by omega) (by omega)]
    have w2 : wrap64 (1 + r) = 1 + r := wr (by omega) (by omega)
    have w3 : wrap64 (1 + s) = 1 + s := wr (by omega) (by omega)
    have w4 : wrap64 (1 + y) = 1 + y := wr (by omega) (by omega)
    simp only [e1, e2, e3, e4, e5, e6, Option.bind_some, w1, w2, w3, w4]
    generalize hlong : 20 * a + b = long
    obtain ⟨i1, i2⟩ := turnsFor_f long (1 + r) (by omega) (by omega)
    have em := Int.emod_add_mul_ediv long (1 + r)
    have m0 := Int.emod_nonneg long (show (1 + r) ≠ 0 by omega)
    have m1 := Int.emod_lt_of_pos long (show 0 < 1 + r by omega)
    have em' : long / (1 + r) * (1 + r) + long % (1 + r) = long := by rw [Int.mul_comm]; omega
    have q0 : 0 ≤ long / (1 + r) := Int.ediv_nonneg (by omega) (by omega)
    have q2 : 0 ≤ long / (1 + r) * (1 + r) := Int.mul_nonneg q0 (by omega)
    have w5 : wrap64 (wrap64 (long / (1 + r) * (1 + r)) + long % (1 + r)) = long := by
      rw [wr (n := long / (1 + r) * (1 + r)) (by omega) (by omega), em', wr (by omega) (by omega)]
    have nn : ¬ (long % (1 + r) < 0) := by omega
    have ng : ¬ (long % (1 + r) ≥ 1 + r) := by omega
    simp only [i1, i2, Option.bind_some, if_true, w5, if_neg nn, decide_eq_false ng]
    obtain ⟨n, less, t1, t2, t3, t4, t5, t6⟩ := bt_ev long (1 + s) g (1 + y) (by omega) (by omega) (by omega) (by omega)
    refine Ev.step (fun k => by simp only [laws_FnBalls.j0, Bool.false_eq_true, if_false]; rfl) (Ev.bind t1 (Ev.bind t2 ?_))
    have hy : ¬ (1 + y = 0) := by omega
    have tl := tL_f (n : Int) (1 + s) g (1 + y) (by omega) (by omega) (by omega) (by omega) (by omega)
    have wl : wrap64 (1 + s + wrap64 (wrap64 (Int.tdiv (n : Int) (1 + y)) * g)) = tL (1 + s) g (1 + y) n := by
      have h := tl.2.2
      unfold impl_turnLong.f at h
      rw [if_neg hy] at h
      exact Option.some.inj h
    have ln : ¬ (less < 0) := by omega
    have lg : ¬ (less ≥ tL (1 + s) g (1 + y) n) := by omega
    simp only [if_true, if_neg ln, if_neg hy, wl, decide_eq_false lg]
    by_cases hn : (n : Int) < 1000
    · have f1 := bl_ev n (1 + s) g (1 + y) (by omega) (by omega) (by omega) (by omega)
      have f2 := bl_ev (n + 1) (1 + s) g (1 + y) (by omega) (by omega) (by omega) (by omega)
      have wn : wrap64 ((n : Int) + 1) = ((n + 1 : Nat) : Int) := by rw [wr (by omega) (by omega)]; omega
      refine Ev.step (fun k => by simp only [laws_FnBalls.j1, Bool.false_eq_true, if_false, if_pos hn, wn]; rfl) (Ev.bind f1 (Ev.bind f2 ?_))
      have se := tS_end (1 + s) g (1 + y) n 0
      rw [Int.zero_add] at se
      have ws : wrap64 (tS (1 + s) g (1 + y) 0 n + less) = long := by rw [t3]; exact wr (by omega) (by omega)
      have fin : ¬ (tS (1 + s) g (1 + y) 0 (n + 1) ≤ long) := by omega
      simp only [if_true, ws, if_neg fin]
      exact FnBalls_tail m hm
    · exact Ev.step (fun k => by simp only [laws_FnBalls.j1, Bool.false_eq_true, if_false, if_neg hn]) (FnBalls_tail m hm)
end Go.Proofs.Ytpaffbkakgagaaa.Pure
