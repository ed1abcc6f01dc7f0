/- The program's ShapeRows returns what the reference's returns, for all arguments; no conditions beyond the sizes that the law's row itself gives. -/
import Derived.Test.YtppmdfcfbldmjaaPFnExactShapeRowsx3
namespace Go.Proofs.Ytppmdfcfbldmjaa.Pure
open Go.RowKit Go.Proofs.Ytppmdfcfbldmjaa.PFnExactShapeRows Go.Proofs.YtppmdfcfbldmjaaW.PrintWords Go.Proofs.YtppmdfcfbldmjaaW.PrintLast
set_option linter.unusedVariables false
set_option linter.unusedSimpArgs false
theorem wr {n : Int} (h0 : -9223372036854775808 ≤ n) (h1 : n ≤ 9223372036854775807) : wrap64 n = n := by
  unfold wrap64; omega
theorem wf64 {a : Int} (h : (Lit.int .i64 a).wf = true) : -9223372036854775808 ≤ a ∧ a ≤ 9223372036854775807 := by
  simp only [Lit.wf, IntKind.min, IntKind.max, IntKind.signed, IntKind.bits, Bool.and_eq_true, decide_eq_true_eq, if_true] at h
  omega
theorem ev_id {α : Type} {g : Nat → Option α} {r s : α} (h : Ev g r) (e : r = s) : Ev g s := e ▸ h
theorem ev_const {α : Type} {o : Option α} {r : α} (h : o = some r) : Ev (fun _ => o) r := ⟨0, fun _ _ => h⟩
theorem ev_fun {α : Type} {g : Nat → Option α} {r s : α} (h : Ev g r) (k : Ev g s) : r = s := by
  obtain ⟨a, h⟩ := h
  obtain ⟨b, k⟩ := k
  have x := h (max a b) (by omega)
  have y := k (max a b) (by omega)
  rw [x] at y; exact Option.some.inj y
/-- Both come to one answer. -/
def Same {α : Type} (g f : Nat → Option α) : Prop := ∃ r, Ev g r ∧ Ev f r
theorem Same.step {α : Type} {g f g' f' : Nat → Option α} (hg : ∀ k, g (k + 1) = g' k) (hf : ∀ k, f (k + 1) = f' k) (h : Same g' f') : Same g f := by
  obtain ⟨r, a, b⟩ := h
  exact ⟨r, Ev.step hg a, Ev.step hf b⟩
theorem Same.left {α : Type} {g f g' : Nat → Option α} (hg : ∀ k, g (k + 1) = g' k) (h : Same g' f) : Same g f := by
  obtain ⟨r, a, b⟩ := h
  exact ⟨r, Ev.step hg a, b⟩
theorem Same.right {α : Type} {g f f' : Nat → Option α} (hf : ∀ k, f (k + 1) = f' k) (h : Same g f') : Same g f := by
  obtain ⟨r, a, b⟩ := h
  exact ⟨r, a, Ev.step hf b⟩
theorem Same.now {α : Type} (r : α) : Same (fun _ => some r) (fun _ => some r) := ⟨r, Ev.now r, Ev.now r⟩
theorem if_dec {α : Type} {p : Prop} [Decidable p] (a b : α) : (if decide p = true then a else b) = if p then a else b := by
  by_cases h : p <;> simp [h]
theorem w00 : wrap64 0 = 0 := wr (by omega) (by omega)
theorem l00In_f (a b c : Int) : spec_l00In.f a b c = some (decide (b ≤ a ∧ a ≤ c)) := by
  unfold spec_l00In.f
  by_cases h : b ≤ a <;> simp [h]
theorem within_f (a b c : Int) : impl_within.f a b c = some (decide (b ≤ a ∧ a ≤ c)) := by
  unfold impl_within.f
  by_cases h : b ≤ a <;> simp [h]
theorem set_mid (out rest : List Int) (i : Int) (c x : Int) (hi : (out.length : Int) = i) : (out ++ x :: rest).set i.toNat c = out ++ c :: rest := by
  have : i.toNat = out.length := by omega
  rw [this, List.set_append_right _ _ (by omega)]; simp
theorem shape_loop (n m c : Int) (hn : 1 ≤ n ∧ n ≤ 1000) (d : Nat) : ∀ (out : List Int) (i : Int), (out.length : Int) = i → i + d = n →
    ∃ r : List Int, Ev (fun k => spec_l05Shape.l0 k n m c out i) (strOfNums r, true) ∧ Ev (fun k => impl_shapeRow.l0 k n m c (out ++ List.replicate d 0) n i) (strOfNums r) := by
  induction d with
  | zero =>
    intro out i hl hi
    refine ⟨out, Ev.step (f := fun _ => some (strOfNums out, true)) (fun k => ?_) (Ev.now _), Ev.step (f := fun _ => some (strOfNums out)) (fun k => ?_) (Ev.now _)⟩
    · simp only [spec_l05Shape.l0]; rw [if_neg (by omega)]
    · simp only [impl_shapeRow.l0]; rw [if_neg (by omega)]; simp
  | succ d ih =>
    intro out i hl hi
    by_cases h : (wrap64 (Int.tdiv (wrap64 ((wrap64 (i + 1)) * m)) n)) > (wrap64 (Int.tdiv (wrap64 (i * m)) n))
    · obtain ⟨r, e1, e2⟩ := ih (out ++ [c]) (i + 1) (by simp; omega) (by omega)
      refine ⟨r, Ev.step (fun k => ?_) e1, Ev.step (fun k => ?_) e2⟩
      · simp only [spec_l05Shape.l0]; rw [if_pos (by omega), if_neg (by omega), if_pos h, if_pos (by omega), wr (n := i + 1) (by omega) (by omega)]
      · simp only [impl_shapeRow.l0, List.replicate_succ]
        rw [if_pos (by omega), if_pos (by omega), if_pos (by simp; omega), set_mid out _ i 107 0 hl]
        simp only [Option.bind_some]
        rw [if_neg (by omega), if_pos h, set_mid out _ i c 107 hl, wr (n := i + 1) (by omega) (by omega)]; simp
    · obtain ⟨r, e1, e2⟩ := ih (out ++ [107]) (i + 1) (by simp; omega) (by omega)
      refine ⟨r, Ev.step (fun k => ?_) e1, Ev.step (fun k => ?_) e2⟩
      · simp only [spec_l05Shape.l0]; rw [if_pos (by omega), if_neg (by omega), if_neg h, if_pos (by omega), wr (n := i + 1) (by omega) (by omega)]
      · simp only [impl_shapeRow.l0, List.replicate_succ]
        rw [if_pos (by omega), if_pos (by omega), if_pos (by simp; omega), set_mid out _ i 107 0 hl]
        simp only [Option.bind_some]
        rw [if_neg (by omega), if_neg h, wr (n := i + 1) (by omega) (by omega)]; simp
/-- One row of a shape: what both come to. -/
theorem shape_row (a b : Int) (ha : 1 ≤ a ∧ a ≤ 1000) (hb : 1 ≤ b ∧ b ≤ 1000) :
    ∃ r : List Int, Ev (fun k => spec_l05Shape.f k a b) (if a ≤ 2 * b ∧ b ≤ 2 * a then (strOfNums r, true) else ((⟨#[]⟩ : ByteArray), false)) ∧ Ev (fun k => impl_shapeRow.f k a b) (strOfNums r) := by
  have hd : wrap64 (a - b) = a - b := wr (by omega) (by omega)
  have hd' : wrap64 (-(a - b)) = -(a - b) := wr (by omega) (by omega)
  have h2a : wrap64 (2 * a) = 2 * a := wr (by omega) (by omega)
  have h2b : wrap64 (2 * b) = 2 * b := wr (by omega) (by omega)
  have es : spec_l01Size.f (wrap64 (a - b)) = some (mx (a - b) (-(a - b))) := by
    unfold spec_l01Size.f spec_l00Max.f mx
    rw [hd, hd']
    by_cases h : a - b > -(a - b)
    · rw [if_pos h, if_neg (by omega)]; simp
    · rw [if_neg h]
      by_cases h2 : a - b < -(a - b)
      · rw [if_pos h2]; simp
      · rw [if_neg h2, show -(a - b) = a - b by omega]; simp
  have em : spec_l00Min.f a b = some (mn a b) := by
    unfold spec_l00Min.f mn
    by_cases h : a < b
    · rw [if_pos h, if_neg (by omega)]
    · rw [if_neg h]
      by_cases h2 : b < a
      · rw [if_pos h2]
      · rw [if_neg h2, show a = b by omega]
  have hm : 1 ≤ mn a b ∧ mn a b ≤ 1000 := by unfold mn; split <;> omega
  have loop := fun c => shape_loop (mn a b) (mx (a - b) (-(a - b))) c hm (mn a b).toNat [] 0 (by simp) (by omega)
  have hj : ∀ c k, impl_shapeRow.j0 (k + 1) (mn a b) (mx (a - b) (-(a - b))) c = impl_shapeRow.l0 k (mn a b) (mx (a - b) (-(a - b))) c ([] ++ List.replicate (mn a b).toNat 0) (mn a b) 0 := by
    intro c k
    simp only [impl_shapeRow.j0]
    rw [if_pos (by omega), if_pos (by omega)]; simp
  unfold spec_l05Shape.f impl_shapeRow.f impl_size.f
  rw [hd, hd', h2a, h2b]
  simp only [Option.bind_some]
  by_cases hc : b > a
  · obtain ⟨r, e1, e2⟩ := loop 105
    refine ⟨r, ?_, ?_⟩
    · by_cases h1 : a > 2 * b
      · omega
      · by_cases h2 : b > 2 * a
        · rw [if_neg (show ¬(a ≤ 2 * b ∧ b ≤ 2 * a) by omega)]
          simp only [if_neg h1, decide_eq_true h2]
          exact Ev.step (f := fun _ => some ((⟨#[]⟩ : ByteArray), false)) (fun k => by simp [spec_l05Shape.j0]) (Ev.now _)
        · rw [if_pos (show (a ≤ 2 * b ∧ b ≤ 2 * a) by omega)]
          simp only [if_neg h1, decide_eq_false h2]
          exact Ev.step (fun k => by simp only [spec_l05Shape.j0, es, em, Option.bind_some, if_pos hc, Bool.false_eq_true, if_false]; rfl) (Ev.step (fun k => by simp only [spec_l05Shape.j1]) e1)
    · simp only [if_pos hc]
      exact Ev.step (hj 105) e2
  · obtain ⟨r, e1, e2⟩ := loop 100
    refine ⟨r, ?_, ?_⟩
    · by_cases h1 : a > 2 * b
      · rw [if_neg (show ¬(a ≤ 2 * b ∧ b ≤ 2 * a) by omega)]
        simp only [if_pos h1]
        exact Ev.step (f := fun _ => some ((⟨#[]⟩ : ByteArray), false)) (fun k => by simp [spec_l05Shape.j0]) (Ev.now _)
      · by_cases h2 : b > 2 * a
        · omega
        · rw [if_pos (show (a ≤ 2 * b ∧ b ≤ 2 * a) by omega)]
          simp only [if_neg h1, decide_eq_false h2]
          exact Ev.step (fun k => by simp only [spec_l05Shape.j0, es, em, Option.bind_some, if_neg hc, Bool.false_eq_true, if_false]; rfl) (Ev.step (fun k => by simp only [spec_l05Shape.j1]) e1)
    · simp only [if_neg hc]
      exact Ev.step (hj 100) e2
theorem rdS {l : List ByteArray} {i : Nat} (h : i < l.length) : rdOf ByteArray.empty l (i : Int) = l[i] := by
  unfold rdOf; simp [List.getD, h]
theorem eqStringS_loop (a : List ByteArray) (hn : (a.length : Int) ≤ 4611686018427387904) (d : Nat) : ∀ (i : Nat), i + d = a.length →
    Ev (fun k => laws_eqStringS.l0 k a a (i : Int)) true := by
  induction d with
  | zero =>
    intro i hi
    refine Ev.step (f := fun _ => some true) (fun k => ?_) (Ev.now _)
    simp only [laws_eqStringS.l0]; rw [if_neg (by omega)]
  | succ d ih =>
    intro i hi
    refine Ev.step (fun k => ?_) (ih (i + 1) (by omega))
    simp only [laws_eqStringS.l0, if_true]
    rw [if_pos (by omega), if_pos (by omega), if_pos (by omega), wr (n := (i : Int) + 1) (by omega) (by omega)]; rfl
theorem eqStringS_self (a : List ByteArray) (hn : (a.length : Int) ≤ 4611686018427387904) : Ev (fun k => laws_eqStringS.f k a a) true := by
  unfold laws_eqStringS.f
  simp only [if_true]
  exact eqStringS_loop a hn a.length 0 (by omega)
theorem markText_loop (n : Nat) : ∀ (x : Int) (s : ByteArray), 0 ≤ x → x ≤ 9223372036854775807 → x < 10 ^ n → s.size + n ≤ 9000000000000000000 → ∃ t, Ev (fun k => laws_markText.l0 k x s) t := by
  induction n with
  | zero =>
    intro x s h0 hx63 h1 hs
    have hx : x = 0 := by simp at h1; omega
    refine ⟨(⟨#[109]⟩ : ByteArray) ++ s, Ev.step (f := fun _ => some ((⟨#[109]⟩ : ByteArray) ++ s)) (fun k => ?_) (Ev.now _)⟩
    simp only [laws_markText.l0]; rw [if_neg (by omega), if_pos (by omega)]
  | succ n ih =>
    intro x s h0 hx63 h1 hs
    by_cases hx : x > 0
    · have e : Int.tdiv x 10 = x / 10 := Int.tdiv_eq_ediv_of_nonneg h0
      have hsz : ∀ c : Int, (strOfNums [c]).size = 1 := fun c => rfl
      have hp : x / 10 < 10 ^ n := by
        have : x < 10 ^ n * 10 := by rw [Int.pow_succ] at h1; exact h1
        omega
      obtain ⟨t, ht⟩ := ih (wrap64 (Int.tdiv x 10)) (strOfNums [(wrap64 (48 + (Int.tmod x 10))) % 256] ++ s) (by rw [e, wr (by omega) (by omega)]; omega) (by rw [e, wr (by omega) (by omega)]; omega) (by rw [e, wr (by omega) (by omega)]; exact hp) (by rw [ByteArray.size_append, hsz]; omega)
      refine ⟨t, Ev.step (fun k => ?_) ht⟩
      simp only [laws_markText.l0, Option.bind_some, hsz]
      rw [if_pos hx, if_pos (by omega)]
    · refine ⟨(⟨#[109]⟩ : ByteArray) ++ s, Ev.step (f := fun _ => some ((⟨#[109]⟩ : ByteArray) ++ s)) (fun k => ?_) (Ev.now _)⟩
      simp only [laws_markText.l0]; rw [if_neg hx, if_pos (by omega)]
theorem markText_fun : ∃ T : Int → ByteArray, ∀ k, k ≤ 9223372036854775807 → Ev (fun n => laws_markText.f n k) (T k) := by
  have h : ∀ k : Int, ∃ t, k ≤ 9223372036854775807 → Ev (fun n => laws_markText.f n k) t := by
    intro k
    by_cases h0 : k ≤ 0
    · exact ⟨(⟨#[109, 48]⟩ : ByteArray), fun _ => by unfold laws_markText.f; simp only [if_pos h0]; exact Ev.now _⟩
    · by_cases hk : k ≤ 9223372036854775807
      · obtain ⟨t, ht⟩ := markText_loop 19 k (⟨#[]⟩ : ByteArray) (by omega) (by omega) (by omega) (by decide)
        exact ⟨t, fun _ => by unfold laws_markText.f; simp only [if_neg h0]; exact ht⟩
      · exact ⟨ByteArray.empty, fun h => absurd h hk⟩
  exact ⟨fun k => Classical.choose (h k), fun k => Classical.choose_spec (h k)⟩
theorem markStringS_loop (T : Int → ByteArray) (hT : ∀ k, k ≤ 9223372036854775807 → Ev (fun n => laws_markText.f n k) (T k)) (b : Nat) (hb : b ≤ 1000000000) (d : Nat) : ∀ (a : List ByteArray) (i : Nat), i + d = a.length → (a.length : Int) ≤ 4611686018427387904 → (∀ j (h : j < a.length), j < i → a[j] = T (b + (j : Int))) →
    ∃ r : List ByteArray, Ev (fun k => laws_markStringS.l0 k a (b + (i : Int)) (i : Int)) (b + (a.length : Int), r) ∧ r.length = a.length ∧ ∀ j (h : j < r.length), r[j] = T (b + (j : Int)) := by
  induction d with
  | zero =>
    intro a i hi hn ha
    refine ⟨a, Ev.step (f := fun _ => some (b + (a.length : Int), a)) (fun k => ?_) (Ev.now _), rfl, fun j h => ha j h (by omega)⟩
    simp only [laws_markStringS.l0]
    rw [if_neg (by omega), show i = a.length by omega]
  | succ d ih =>
    intro a i hi hn ha
    obtain ⟨r, h1, h2, h3⟩ := ih (a.set i (T (b + (i : Int)))) (i + 1) (by simp; omega) (by simpa using hn) (by
      intro j h hj
      simp only [List.getElem_set]
      split
      · rename_i e; rw [e]
      · exact ha j (by simpa using h) (by omega))
    simp only [List.length_set] at h1 h2
    have hilt : (i : Int) < (a.length : Int) := by omega
    refine ⟨r, Ev.step (fun k => by simp only [laws_markStringS.l0]; rw [if_pos hilt]) (Ev.bind (hT _ (by omega)) ?_), h2, h3⟩
    have h0 : (0 : Int) ≤ (i : Int) := by omega
    have w1 : wrap64 ((b : Int) + (i : Int) + 1) = (b : Int) + ((i + 1 : Nat) : Int) := by rw [wr (by omega) (by omega)]; omega
    have w2 : wrap64 ((i : Int) + 1) = ((i + 1 : Nat) : Int) := by rw [wr (by omega) (by omega)]; omega
    simp only [if_pos h0, w1, w2, Int.toNat_natCast]
    exact h1
theorem heldStringS_loop (T : Int → ByteArray) (hT : ∀ k, k ≤ 9223372036854775807 → Ev (fun n => laws_markText.f n k) (T k)) (b : Nat) (hb : b ≤ 1000000000) (a : List ByteArray) (hn : (a.length : Int) ≤ 4611686018427387904) (ha : ∀ j (h : j < a.length), a[j] = T (b + (j : Int))) (d : Nat) : ∀ (i : Nat), i + d = a.length →
    Ev (fun k => laws_heldStringS.l0 k a (b + (i : Int)) (i : Int)) (b + (a.length : Int)) := by
  induction d with
  | zero =>
    intro i hi
    refine Ev.step (f := fun _ => some (b + (a.length : Int))) (fun k => ?_) (Ev.now _)
    simp only [laws_heldStringS.l0]
    rw [if_neg (by omega), show i = a.length by omega]
  | succ d ih =>
    intro i hi
    have hilt : (i : Int) < (a.length : Int) := by omega
    have h0 : (0 : Int) ≤ (i : Int) := by omega
    have w1 : wrap64 ((b : Int) + (i : Int) + 1) = (b : Int) + ((i + 1 : Nat) : Int) := by rw [wr (by omega) (by omega)]; omega
    have w2 : wrap64 ((i : Int) + 1) = ((i + 1 : Nat) : Int) := by rw [wr (by omega) (by omega)]; omega
    refine Ev.step (fun k => by simp only [laws_heldStringS.l0]; rw [if_pos hilt, if_pos h0]) (Ev.bind (hT _ (by omega)) ?_)
    simp only [rdS (show i < a.length by omega), ha i (by omega), if_true, w1, w2]
    exact ih (i + 1) (by omega)
/-- What has been marked is held. -/
theorem markStringS_ev (a : List ByteArray) (hn : (a.length : Int) ≤ 4611686018427387904) :
    ∃ r : List ByteArray, Ev (fun k => laws_markStringS.f k a 1) (1 + (a.length : Int), r) ∧ Ev (fun k => laws_heldStringS.f k r 1) (1 + (a.length : Int)) := by
  obtain ⟨T, hT⟩ := markText_fun
  obtain ⟨r, h1, h2, h3⟩ := markStringS_loop T hT 1 (by omega) a.length a 0 (by omega) hn (fun j h hj => by omega)
  refine ⟨r, h1, ?_⟩
  have := heldStringS_loop T hT 1 (by omega) r (by omega) h3 r.length 0 (by omega)
  rw [h2] at this
  exact this
theorem next_range (a b n k : Int) (ha : 1 ≤ a ∧ a ≤ 60) (hb : 1 ≤ b ∧ b ≤ 60) (hn : 1 ≤ n ∧ n ≤ 30) (hk : 1 ≤ k ∧ k ≤ n) :
    ∃ x, 1 ≤ x ∧ x ≤ 60 ∧ wrap64 (a + (wrap64 (Int.tdiv (wrap64 ((wrap64 (b - a)) * k)) n))) = x := by
  rw [wr (n := b - a) (by omega) (by omega)]
  by_cases h : 0 ≤ b - a
  · have m0 : 0 ≤ (b - a) * k := Int.mul_nonneg h (by omega)
    have m1 : (b - a) * k ≤ (b - a) * n := Int.mul_le_mul_of_nonneg_left hk.2 h
    have m2 : (b - a) * n ≤ 59 * 30 := Int.mul_le_mul (by omega) (by omega) (by omega) (by omega)
    rw [wr (n := (b - a) * k) (by omega) (by omega), Int.tdiv_eq_ediv_of_nonneg m0]
    have q0 : 0 ≤ (b - a) * k / n := Int.ediv_nonneg m0 (by omega)
    have q1 : (b - a) * k / n ≤ (b - a) * n / n := Int.ediv_le_ediv (by omega) m1
    rw [Int.mul_ediv_cancel _ (by omega)] at q1
    rw [wr (n := (b - a) * k / n) (by omega) (by omega), wr (by omega) (by omega)]
    exact ⟨_, by omega, by omega, rfl⟩
  · have h' : 0 ≤ a - b := by omega
    have m0 : 0 ≤ (a - b) * k := Int.mul_nonneg h' (by omega)
    have m1 : (a - b) * k ≤ (a - b) * n := Int.mul_le_mul_of_nonneg_left hk.2 h'
    have m2 : (a - b) * n ≤ 59 * 30 := Int.mul_le_mul (by omega) (by omega) (by omega) (by omega)
    have e : (b - a) * k = -((a - b) * k) := by rw [← Int.neg_mul]; congr 1; omega
    rw [e, wr (n := -((a - b) * k)) (by omega) (by omega), Int.neg_tdiv, Int.tdiv_eq_ediv_of_nonneg m0]
    have q0 : 0 ≤ (a - b) * k / n := Int.ediv_nonneg m0 (by omega)
    have q1 : (a - b) * k / n ≤ (a - b) * n / n := Int.ediv_le_ediv (by omega) m1
    rw [Int.mul_ediv_cancel _ (by omega)] at q1
    rw [wr (n := -((a - b) * k / n)) (by omega) (by omega), wr (by omega) (by omega)]
    exact ⟨_, by omega, by omega, rfl⟩
theorem rows_loop (a b n : Int) (ha : 1 ≤ a ∧ a ≤ 60) (hb : 1 ≤ b ∧ b ≤ 60) (hn : 1 ≤ n ∧ n ≤ 30) (d : Nat) : ∀ (out : List ByteArray) (now k : Int), 1 ≤ now ∧ now ≤ 60 → 1 ≤ k → k + d = n + 1 → (out.length : Int) ≤ k →
    ∃ r : List ByteArray × Int, Ev (fun q => spec_ShapeRows.l0 q a b n out now k) r ∧ Ev (fun q => impl_ShapeRows.l0 q a b n out now k) r ∧ (r.1.length : Int) ≤ 100 := by
  induction d with
  | zero =>
    intro out now k hnow hk1 hk hl
    refine ⟨(out, 0), Ev.step (f := fun _ => some (out, 0)) (fun q => ?_) (Ev.now _), Ev.step (f := fun _ => some (out, 0)) (fun q => ?_) (Ev.now _), by simp only; omega⟩
    · simp only [spec_ShapeRows.l0]; rw [if_neg (by omega)]
    · simp only [impl_ShapeRows.l0]; rw [if_neg (by omega)]
  | succ d ih =>
    intro out now k hnow hk1 hk hl
    obtain ⟨x, x1, x2, ex⟩ := next_range a b n k ha hb hn (by omega)
    obtain ⟨r, e1, e2⟩ := shape_row now x (by omega) (by omega)
    have h2a : wrap64 (2 * now) = 2 * now := wr (by omega) (by omega)
    have h2b : wrap64 (2 * x) = 2 * x := wr (by omega) (by omega)
    have hkn : k ≤ n := by omega
    have hn0 : ¬ n = 0 := by omega
    have hlen : out.length < 8796093022208 := by omega
    have w1 : wrap64 (k + 1) = k + 1 := wr (by omega) (by omega)
    by_cases h : now ≤ 2 * x ∧ x ≤ 2 * now
    · rw [if_pos h] at e1
      obtain ⟨s, f1, f2, f3⟩ := ih (out ++ [strOfNums r]) x (k + 1) (by omega) (by omega) (by omega) (by simp; omega)
      refine ⟨s, Ev.step (fun q => by simp only [spec_ShapeRows.l0, ex, w1]; rw [if_pos hkn, if_neg hn0]) (Ev.bind e1 (by simp only [if_true, if_pos hlen]; exact f1)), Ev.step (fun q => by simp only [impl_ShapeRows.l0, ex, w1, impl_isShape.f, h2a, h2b, if_pos h.1, Option.bind_some, decide_eq_true h.2, if_true]; rw [if_pos hkn, if_neg hn0]) (Ev.bind e2 (by simp only [if_pos hlen]; exact f2)), f3⟩
    · rw [if_neg h] at e1
      refine ⟨([], 6), Ev.step (fun q => by simp only [spec_ShapeRows.l0, ex, w1]; rw [if_pos hkn, if_neg hn0]) (Ev.bind e1 (by simp only [Bool.false_eq_true, if_false]; exact Ev.now _)), Ev.step (f := fun _ => some ([], 6)) (fun q => ?_) (Ev.now _), by simp⟩
      simp only [impl_ShapeRows.l0, ex, impl_isShape.f, h2a, h2b]
      rw [if_pos hkn, if_neg hn0]
      by_cases h3 : now ≤ 2 * x
      · have h4 : ¬ x ≤ 2 * now := fun y => h ⟨h3, y⟩
        simp [h3, h4]
      · simp [h3]
theorem rows_same (a b n : Int) : ∃ r : List ByteArray × Int, Ev (fun k => spec_ShapeRows.f k a b n) r ∧ Ev (fun k => impl_ShapeRows.f k a b n) r ∧ (r.1.length : Int) ≤ 100 := by
  unfold spec_ShapeRows.f impl_ShapeRows.f spec_l05Cast.f impl_isLoops.f
  simp only [l00In_f, within_f, Option.bind_some, if_dec]
  by_cases h1 : 1 ≤ a ∧ a ≤ 60
  · by_cases h2 : 1 ≤ b ∧ b ≤ 60
    · by_cases h3 : 1 ≤ n ∧ n ≤ 30
      · simp only [if_pos h1, if_pos h2, decide_eq_true h3]
        obtain ⟨r, e1, e2, e3⟩ := rows_loop a b n h1 h2 h3 n.toNat [] a 1 h1 (by omega) (by omega) (by simp)
        exact ⟨r, Ev.step (fun k => by simp [spec_ShapeRows.j0]) e1, Ev.step (fun k => by simp [impl_ShapeRows.j0]) e2, e3⟩
      · simp only [if_pos h1, if_pos h2, decide_eq_false h3]
        exact ⟨([], 2), Ev.step (f := fun _ => some ([], 2)) (fun k => by simp [spec_ShapeRows.j0]) (Ev.now _), Ev.step (f := fun _ => some ([], 2)) (fun k => by simp [impl_ShapeRows.j0]) (Ev.now _), by simp⟩
    · simp only [if_pos h1, if_neg h2]
      exact ⟨([], 2), Ev.step (f := fun _ => some ([], 2)) (fun k => by simp [spec_ShapeRows.j0]) (Ev.now _), Ev.step (f := fun _ => some ([], 2)) (fun k => by simp [impl_ShapeRows.j0]) (Ev.now _), by simp⟩
  · simp only [if_neg h1]
    exact ⟨([], 2), Ev.step (f := fun _ => some ([], 2)) (fun k => by simp [spec_ShapeRows.j0]) (Ev.now _), Ev.step (f := fun _ => some ([], 2)) (fun k => by simp [impl_ShapeRows.j0]) (Ev.now _), by simp⟩
theorem FnExactShapeRows : laws_FnExactShapeRows.Pure := by
  intro a b n _ _ _
  obtain ⟨⟨r, c⟩, h1, h2, h3⟩ := rows_same a b n
  have hl : (r.length : Int) ≤ 4611686018427387904 := by simp only at h3; omega
  obtain ⟨s, m1, m2⟩ := markStringS_ev r hl
  have hneg : ¬ (1 + (r.length : Int) < 0) := by omega
  refine Ev.rounds ?_
  unfold laws_FnExactShapeRows.f
  refine Ev.bind h1 (Ev.bind h2 (Ev.bind (eqStringS_self r hl) ?_))
  simp only [if_true, bne_self_eq_false]
  refine Ev.step (fun k => by simp only [laws_FnExactShapeRows.j0]; rfl) ?_
  simp only [Bool.false_eq_true, if_false]
  refine Ev.bind m1 (Ev.bind m2 ?_)
  simp only [if_neg hneg, if_true]
  refine Ev.bind h2 (Ev.bind (eqStringS_self r hl) ?_)
  simp only [if_true, bne_self_eq_false]
  refine Ev.step (fun k => by simp only [laws_FnExactShapeRows.j1]; rfl) ?_
  simp only [Bool.false_eq_true, if_false]
  refine Ev.bind m2 ?_
  simp only [if_neg hneg, if_true]
  exact Ev.now _
end Go.Proofs.Ytppmdfcfbldmjaa.Pure
