/- The program's ShapeRow returns what the reference's returns, for all arguments (64-bit integers). -/
import Derived.Test.YtpaffbkakgagaaaPFnExactShapeRowx2
namespace Go.Proofs.Ytpaffbkakgagaaa.Pure
open Go.RowKit Go.Proofs.Ytpaffbkakgagaaa.PFnExactShapeRow Go.Proofs.YtpaffbkakgagaaaW.PrintWords Go.Proofs.YtpaffbkakgagaaaW.PrintLast
set_option linter.unusedVariables false
set_option linter.unusedSimpArgs false
theorem wr {n : Int} (h0 : -9223372036854775808 ≤ n) (h1 : n ≤ 9223372036854775807) : wrap64 n = n := by
  unfold wrap64; omega
theorem wf64 {a : Int} (h : (Lit.int .i64 a).wf = true) : -9223372036854775808 ≤ a ∧ a ≤ 9223372036854775807 := by
  simp only [Lit.wf, IntKind.min, IntKind.max, IntKind.signed, IntKind.bits, Bool.and_eq_true, decide_eq_true_eq, if_true] at h
  omega
theorem ev_id {α : Type} {g : Nat → Option α} {r s : α} (h : Ev g r) (e : r = s) : Ev g s := e ▸ h
theorem ev_const {α : Type} {o : Option α} {r : α} (h : o = some r) : Ev (fun _ => o) r := ⟨0, fun _ _ => h⟩
theorem ev_fun {α : Type} {g : Nat → Option α} {r s : α} (h : Ev g r) (k : Ev g s) : r = s := by
  obtain ⟨a, h⟩ := h
  obtain ⟨b, k⟩ := k
  have x := h (max a b) (by omega)
  have y := k (max a b) (by omega)
  rw [x] at y; exact Option.some.inj y
/-- Both come to one answer. -/
def Same {α : Type} (g f : Nat → Option α) : Prop := ∃ r, Ev g r ∧ Ev f r
theorem Same.step {α : Type} {g f g' f' : Nat → Option α} (hg : ∀ k, g (k + 1) = g' k) (hf : ∀ k, f (k + 1) = f' k) (h : Same g' f') : Same g f := by
  obtain ⟨r, a, b⟩ := h
  exact ⟨r, Ev.step hg a, Ev.step hf b⟩
theorem Same.left {α : Type} {g f g' : Nat → Option α} (hg : ∀ k, g (k + 1) = g' k) (h : Same g' f) : Same g f := by
  obtain ⟨r, a, b⟩ := h
  exact ⟨r, Ev.step hg a, b⟩
theorem Same.right {α : Type} {g f f' : Nat → Option α} (hf : ∀ k, f (k + 1) = f' k) (h : Same g f') : Same g f := by
  obtain ⟨r, a, b⟩ := h
  exact ⟨r, a, Ev.step hf b⟩
theorem Same.now {α : Type} (r : α) : Same (fun _ => some r) (fun _ => some r) := ⟨r, Ev.now r, Ev.now r⟩
theorem if_dec {α : Type} {p : Prop} [Decidable p] (a b : α) : (if decide p = true then a else b) = if p then a else b := by
  by_cases h : p <;> simp [h]
theorem l00In_f (a b c : Int) : spec_l00In.f a b c = some (decide (b ≤ a ∧ a ≤ c)) := by
  unfold spec_l00In.f
  by_cases h : b ≤ a <;> simp [h]
theorem within_f (a b c : Int) : impl_within.f a b c = some (decide (b ≤ a ∧ a ≤ c)) := by
  unfold impl_within.f
  by_cases h : b ≤ a <;> simp [h]
theorem set_mid (out rest : List Int) (i : Int) (c x : Int) (hi : (out.length : Int) = i) : (out ++ x :: rest).set i.toNat c = out ++ c :: rest := by
  have : i.toNat = out.length := by omega
  rw [this, List.set_append_right _ _ (by omega)]; simp
theorem shape_loop (n m c : Int) (hn : 1 ≤ n ∧ n ≤ 1000) (d : Nat) : ∀ (out : List Int) (i : Int), (out.length : Int) = i → i + d = n →
    ∃ r : List Int, Ev (fun k => spec_l05Shape.l0 k n m c out i) (strOfNums r, true) ∧ Ev (fun k => impl_shapeRow.l0 k n m c (out ++ List.replicate d 0) n i) (strOfNums r) := by
  induction d with
  | zero =>
    intro out i hl hi
    refine ⟨out, Ev.step (f := fun _ => some (strOfNums out, true)) (fun k => ?_) (Ev.now _), Ev.step (f := fun _ => some (strOfNums out)) (fun k => ?_) (Ev.now _)⟩
    · simp only [spec_l05Shape.l0]; rw [if_neg (by omega)]
    · simp only [impl_shapeRow.l0]; rw [if_neg (by omega)]; simp
  | succ d ih =>
    intro out i hl hi
    by_cases h : (wrap64 (Int.tdiv (wrap64 ((wrap64 (i + 1)) * m)) n)) > (wrap64 (Int.tdiv (wrap64 (i * m)) n))
    · obtain ⟨r, e1, e2⟩ := ih (out ++ [c]) (i + 1) (by simp; omega) (by omega)
      refine ⟨r, Ev.step (fun k => ?_) e1, Ev.step (fun k => ?_) e2⟩
      · simp only [spec_l05Shape.l0]; rw [if_pos (by omega), if_neg (by omega), if_pos h, if_pos (by omega), wr (n := i + 1) (by omega) (by omega)]
      · simp only [impl_shapeRow.l0, List.replicate_succ]
        rw [if_pos (by omega), if_pos (by omega), if_pos (by simp; omega), set_mid out _ i 107 0 hl]
        simp only [Option.bind_some]
        rw [if_neg (by omega), if_pos h, set_mid out _ i c 107 hl, wr (n := i + 1) (by omega) (by omega)]; simp
    · obtain ⟨r, e1, e2⟩ := ih (out ++ [107]) (i + 1) (by simp; omega) (by omega)
      refine ⟨r, Ev.step (fun k => ?_) e1, Ev.step (fun k => ?_) e2⟩
      · simp only [spec_l05Shape.l0]; rw [if_pos (by omega), if_neg (by omega), if_neg h, if_pos (by omega), wr (n := i + 1) (by omega) (by omega)]
      · simp only [impl_shapeRow.l0, List.replicate_succ]
        rw [if_pos (by omega), if_pos (by omega), if_pos (by simp; omega), set_mid out _ i 107 0 hl]
        simp only [Option.bind_some]
        rw [if_neg (by omega), if_neg h, wr (n := i + 1) (by omega) (by omega)]; simp
/-- One row of a shape: what both come to. -/
theorem shape_row (a b : Int) (ha : 1 ≤ a ∧ a ≤ 1000) (hb : 1 ≤ b ∧ b ≤ 1000) :
    ∃ r : List Int, Ev (fun k => spec_l05Shape.f k a b) (if a ≤ 2 * b ∧ b ≤ 2 * a then (strOfNums r, true) else ((⟨#[]⟩ : ByteArray), false)) ∧ Ev (fun k => impl_shapeRow.f k a b) (strOfNums r) := by
  have hd : wrap64 (a - b) = a - b := wr (by omega) (by omega)
  have hd' : wrap64 (-(a - b)) = -(a - b) := wr (by omega) (by omega)
  have h2a : wrap64 (2 * a) = 2 * a := wr (by omega) (by omega)
  have h2b : wrap64 (2 * b) = 2 * b := wr (by omega) (by omega)
  have es : spec_l01Size.f (wrap64 (a - b)) = some (mx (a - b) (-(a - b))) := by
    unfold spec_l01Size.f spec_l00Max.f mx
    rw [hd, hd']
    by_cases h : a - b > -(a - b)
    · rw [if_pos h, if_neg (by omega)]; simp
    · rw [if_neg h]
      by_cases h2 : a - b < -(a - b)
      · rw [if_pos h2]; simp
      · rw [if_neg h2, show -(a - b) = a - b by omega]; simp
  have em : spec_l00Min.f a b = some (mn a b) := by
    unfold spec_l00Min.f mn
    by_cases h : a < b
    · rw [if_pos h, if_neg (by omega)]
    · rw [if_neg h]
      by_cases h2 : b < a
      · rw [if_pos h2]
      · rw [if_neg h2, show a = b by omega]
  have hm : 1 ≤ mn a b ∧ mn a b ≤ 1000 := by unfold mn; split <;> omega
  have loop := fun c => shape_loop (mn a b) (mx (a - b) (-(a - b))) c hm (mn a b).toNat [] 0 (by simp) (by omega)
  have hj : ∀ c k, impl_shapeRow.j0 (k + 1) (mn a b) (mx (a - b) (-(a - b))) c = impl_shapeRow.l0 k (mn a b) (mx (a - b) (-(a - b))) c ([] ++ List.replicate (mn a b).toNat 0) (mn a b) 0 := by
    intro c k
    simp only [impl_shapeRow.j0]
    rw [if_pos (by omega), if_pos (by omega)]; simp
  unfold spec_l05Shape.f impl_shapeRow.f impl_size.f
  rw [hd, hd', h2a, h2b]
  simp only [Option.bind_some]
  by_cases hc : b > a
  · obtain ⟨r, e1, e2⟩ := loop 105
    refine ⟨r, ?_, ?_⟩
    · by_cases h1 : a > 2 * b
      · omega
      · by_cases h2 : b > 2 * a
        · rw [if_neg (show ¬(a ≤ 2 * b ∧ b ≤ 2 * a) by omega)]
          simp only [if_neg h1, decide_eq_true h2]
          exact Ev.step (f := fun _ => some ((⟨#[]⟩ : ByteArray), false)) (fun k => by simp [spec_l05Shape.j0]) (Ev.now _)
        · rw [if_pos (show (a ≤ 2 * b ∧ b ≤ 2 * a) by omega)]
          simp only [if_neg h1, decide_eq_false h2]
          exact Ev.step (fun k => by simp only [spec_l05Shape.j0, es, em, Option.bind_some, if_pos hc, Bool.false_eq_true, if_false]; rfl) (Ev.step (fun k => by simp only [spec_l05Shape.j1]) e1)
    · simp only [if_pos hc]
      exact Ev.step (hj 105) e2
  · obtain ⟨r, e1, e2⟩ := loop 100
    refine ⟨r, ?_, ?_⟩
    · by_cases h1 : a > 2 * b
      · rw [if_neg (show ¬(a ≤ 2 * b ∧ b ≤ 2 * a) by omega)]
        simp only [if_pos h1]
        exact Ev.step (f := fun _ => some ((⟨#[]⟩ : ByteArray), false)) (fun k => by simp [spec_l05Shape.j0]) (Ev.now _)
      · by_cases h2 : b > 2 * a
        · omega
        · rw [if_pos (show (a ≤ 2 * b ∧ b ≤ 2 * a) by omega)]
          simp only [if_neg h1, decide_eq_false h2]
          exact Ev.step (fun k => by simp only [spec_l05Shape.j0, es, em, Option.bind_some, if_neg hc, Bool.false_eq_true, if_false]; rfl) (Ev.step (fun k => by simp only [spec_l05Shape.j1]) e1)
    · simp only [if_neg hc]
      exact Ev.step (hj 100) e2
theorem row_same (a b : Int) : Same (fun k => spec_ShapeRow.f k a b) (fun k => impl_ShapeRow.f k a b) := by
  unfold spec_ShapeRow.f impl_ShapeRow.f spec_l05Cast.f impl_isLoops.f
  simp only [l00In_f, within_f, Option.bind_some, if_dec]
  by_cases h1 : 1 ≤ a ∧ a ≤ 60
  · by_cases h2 : 1 ≤ b ∧ b ≤ 60
    · have h2a : wrap64 (2 * a) = 2 * a := wr (by omega) (by omega)
      have h2b : wrap64 (2 * b) = 2 * b := wr (by omega) (by omega)
      obtain ⟨r, e1, e2⟩ := shape_row a b (by omega) (by omega)
      simp only [if_pos h1, decide_eq_true h2]
      by_cases h : a ≤ 2 * b ∧ b ≤ 2 * a
      · rw [if_pos h] at e1
        refine ⟨(strOfNums r, 0), Ev.step (fun k => by simp only [spec_ShapeRow.j0, Bool.not_true, Bool.false_eq_true, if_false]; rfl) (Ev.bind e1 ?_), Ev.step (fun k => by simp only [impl_ShapeRow.j0, impl_isShape.f, h2a, h2b, if_pos h.1, decide_eq_true h.2, Bool.not_true, Bool.false_eq_true, if_false, Option.bind_some, if_true]; rfl) (Ev.bind e2 (Ev.now _))⟩
        simp only [if_true]; exact Ev.now _
      · rw [if_neg h] at e1
        refine ⟨((⟨#[]⟩ : ByteArray), 6), Ev.step (fun k => by simp only [spec_ShapeRow.j0, Bool.not_true, Bool.false_eq_true, if_false]; rfl) (Ev.bind e1 ?_), Ev.step (f := fun _ => some ((⟨#[]⟩ : ByteArray), 6)) (fun k => ?_) (Ev.now _)⟩
        · simp only [Bool.false_eq_true, if_false]; exact Ev.now _
        · simp only [impl_ShapeRow.j0, impl_isShape.f, h2a, h2b, Bool.not_true, Bool.false_eq_true, if_false]
          by_cases h3 : a ≤ 2 * b
          · have h4 : ¬ b ≤ 2 * a := fun x => h ⟨h3, x⟩
            simp [h3, h4]
          · simp [h3]
    · simp only [if_pos h1, decide_eq_false h2]
      exact ⟨((⟨#[]⟩ : ByteArray), 2), Ev.step (f := fun _ => some ((⟨#[]⟩ : ByteArray), 2)) (fun k => by simp [spec_ShapeRow.j0]) (Ev.now _), Ev.step (f := fun _ => some ((⟨#[]⟩ : ByteArray), 2)) (fun k => by simp [impl_ShapeRow.j0]) (Ev.now _)⟩
  · simp only [if_neg h1]
    exact ⟨((⟨#[]⟩ : ByteArray), 2), Ev.step (f := fun _ => some ((⟨#[]⟩ : ByteArray), 2)) (fun k => by simp [spec_ShapeRow.j0]) (Ev.now _), Ev.step (f := fun _ => some ((⟨#[]⟩ : ByteArray), 2)) (fun k => by simp [impl_ShapeRow.j0]) (Ev.now _)⟩
theorem FnExactShapeRow : laws_FnExactShapeRow.Pure := by
  intro a b _ _
  obtain ⟨r, h1, h2⟩ := row_same a b
  refine Ev.rounds ?_
  unfold laws_FnExactShapeRow.f
  refine Ev.bind h1 (Ev.bind h2 ?_)
  simp only [if_true]
  exact Ev.now _
end Go.Proofs.Ytpaffbkakgagaaa.Pure
