/- The statement of the law FnPlies over numbers and lists alone; no conditions. -/
import Derived.Test.YthfanjdbemoaaaaXFnPliesx15
namespace Go.Proofs.Ythfanjdbemoaaaa.Pure
open Go.RowKit Go.Proofs.Ythfanjdbemoaaaa.XFnPlies Go.Proofs.YthfanjdbemoaaaaW.PrintWords Go.Proofs.YthfanjdbemoaaaaW.PrintLast
set_option linter.unusedVariables false
set_option linter.unusedSimpArgs false
theorem wr {n : Int} (h0 : -9223372036854775808 ≤ n) (h1 : n ≤ 9223372036854775807) : wrap64 n = n := by
  unfold wrap64; omega
theorem wf64 {a : Int} (h : (Lit.int .i64 a).wf = true) : -9223372036854775808 ≤ a ∧ a ≤ 9223372036854775807 := by
  simp only [Lit.wf, IntKind.min, IntKind.max, IntKind.signed, IntKind.bits, Bool.and_eq_true, decide_eq_true_eq, if_true] at h
  omega
theorem ev_id {α : Type} {g : Nat → Option α} {r s : α} (h : Ev g r) (e : r = s) : Ev g s := e ▸ h
theorem ev_const {α : Type} {o : Option α} {r : α} (h : o = some r) : Ev (fun _ => o) r := ⟨0, fun _ _ => h⟩
theorem ev_fun {α : Type} {g : Nat → Option α} {r s : α} (h : Ev g r) (k : Ev g s) : r = s := by
  obtain ⟨a, h⟩ := h
  obtain ⟨b, k⟩ := k
  have x := h (max a b) (by omega)
  have y := k (max a b) (by omega)
  rw [x] at y; exact Option.some.inj y
/-- Both come to one answer. -/
def Same {α : Type} (g f : Nat → Option α) : Prop := ∃ r, Ev g r ∧ Ev f r
theorem Same.step {α : Type} {g f g' f' : Nat → Option α} (hg : ∀ k, g (k + 1) = g' k) (hf : ∀ k, f (k + 1) = f' k) (h : Same g' f') : Same g f := by
  obtain ⟨r, a, b⟩ := h
  exact ⟨r, Ev.step hg a, Ev.step hf b⟩
theorem Same.left {α : Type} {g f g' : Nat → Option α} (hg : ∀ k, g (k + 1) = g' k) (h : Same g' f) : Same g f := by
  obtain ⟨r, a, b⟩ := h
  exact ⟨r, Ev.step hg a, b⟩
theorem Same.right {α : Type} {g f f' : Nat → Option α} (hf : ∀ k, f (k + 1) = f' k) (h : Same g f') : Same g f := by
  obtain ⟨r, a, b⟩ := h
  exact ⟨r, a, Ev.step hf b⟩
theorem Same.now {α : Type} (r : α) : Same (fun _ => some r) (fun _ => some r) := ⟨r, Ev.now r, Ev.now r⟩
theorem if_dec {α : Type} {p : Prop} [Decidable p] (a b : α) : (if decide p = true then a else b) = if p then a else b := by
  by_cases h : p <;> simp [h]
theorem w00 : wrap64 0 = 0 := wr (by omega) (by omega)
theorem rd_lt {l : List Int} {i : Nat} (h : i < l.length) : rd l (i : Int) = l[i] := by
  unfold rd; simp [List.getD, h]
theorem l00In_f (a b c : Int) : spec_l00In.f a b c = some (decide (b ≤ a ∧ a ≤ c)) := by
  unfold spec_l00In.f
  by_cases h : b ≤ a <;> simp [h]
theorem within_f (a b c : Int) : impl_within.f a b c = some (decide (b ≤ a ∧ a ≤ c)) := by
  unfold impl_within.f
  by_cases h : b ≤ a <;> simp [h]
abbrev IY := S33
theorem rdIY {l : List IY} {i : Nat} (h : i < l.length) : rd_T33 l (i : Int) = l[i] := by
  unfold rd_T33; simp [List.getD, h]
/-- What a valid yarn is. -/
def vY (x : IY) : Bool := decide ((1 ≤ wrap64 x.f0 ∧ wrap64 x.f0 ≤ 5000) ∧ (-2000 ≤ wrap64 x.f1 ∧ wrap64 x.f1 ≤ 2000) ∧ (1 ≤ wrap64 x.f2 ∧ wrap64 x.f2 ≤ 2000))
theorem vY_spec (x : IY) : spec_l03Yarn.f x.f0 x.f1 x.f2 = some (vY x) := by
  unfold spec_l03Yarn.f vY
  simp only [l00In_f, Option.bind_some, if_dec]
  by_cases h1 : 1 ≤ wrap64 x.f0 ∧ wrap64 x.f0 ≤ 5000 <;> by_cases h2 : -2000 ≤ wrap64 x.f1 ∧ wrap64 x.f1 ≤ 2000 <;> simp [h1, h2]
theorem vY_impl (x : IY) : impl_ValidYarn.f x.f0 x.f1 x.f2 = some (vY x) := by
  unfold impl_ValidYarn.f vY
  simp only [within_f, Option.bind_some, if_dec]
  by_cases h1 : 1 ≤ wrap64 x.f0 ∧ wrap64 x.f0 ≤ 5000 <;> by_cases h2 : -2000 ≤ wrap64 x.f1 ∧ wrap64 x.f1 ≤ 2000 <;> simp [h1, h2]
theorem vYarn_eq : vYarn = vY := by
  funext x
  have h := vYarn_f x
  rw [vY_impl] at h
  exact (Option.some.inj h).symm
/-- The code of yarns. -/
def yCode (l : List IY) (b : Bool) : Int := if l.all vY = true then (if b = true then (if (l.length : Int) > 10 then 3 else 0) else 2) else 1
theorem impl_yCode (l : List IY) (b : Bool) (hl : (l.length : Int) ≤ 140737488351232) : impl_yarnsCode.f l b = some (yCode l b) := by
  unfold impl_yarnsCode.f yCode
  rw [if_pos (by omega), vYarn_eq]
theorem spec_yCode_loop (l : List IY) (b : Bool) (hl : (l.length : Int) ≤ 140737488351232) (d : Nat) : ∀ (i : Nat), i + d = l.length → (∀ x ∈ l.take i, vY x = true) →
    Ev (fun k => spec_l03Asked.l0 k l b (i : Int)) (yCode l b) := by
  induction d with
  | zero =>
    intro i hi ha
    refine Ev.step (f := fun _ => some (yCode l b)) (fun k => ?_) (Ev.now _)
    simp only [spec_l03Asked.l0]
    have : l.all vY = true := by
      rw [List.all_eq_true]; intro x hx; exact ha x (by rw [List.take_of_length_le (by omega)]; exact hx)
    rw [if_neg (by omega)]
    unfold yCode
    rw [if_pos this]
    cases b <;> simp <;> split <;> rfl
  | succ d ih =>
    intro i hi ha
    have hil : i < l.length := by omega
    cases hv : vY l[i] with
    | true =>
      refine Ev.step (fun k => ?_) (ih (i + 1) (by omega) ?_)
      · simp only [spec_l03Asked.l0, rdIY hil, vY_spec, Option.bind_some, hv, if_true]
        rw [if_pos (by omega), if_pos (by omega), wr (n := (i : Int) + 1) (by omega) (by omega)]; rfl
      · intro x hx
        rw [List.take_succ_eq_append_getElem hil] at hx
        rcases List.mem_append.1 hx with h | h
        · exact ha x h
        · simp at h; rw [h]; exact hv
    | false =>
      refine Ev.step (f := fun _ => some (yCode l b)) (fun k => ?_) (Ev.now _)
      simp only [spec_l03Asked.l0, rdIY hil, vY_spec, Option.bind_some, hv]
      rw [if_pos (by omega), if_pos (by omega)]
      have : ¬ l.all vY = true := by
        intro h
        have := List.all_eq_true.1 h l[i] (List.getElem_mem _)
        rw [hv] at this; cases this
      unfold yCode
      rw [if_neg this]; simp
theorem spec_yCode (l : List IY) (b : Bool) (hl : (l.length : Int) ≤ 140737488351232) : Ev (fun k => spec_l03Asked.f k l b) (yCode l b) := by
  unfold spec_l03Asked.f
  exact spec_yCode_loop l b hl l.length 0 (by omega) (by simp)
theorem yCode_zero {l : List IY} {b : Bool} (h : yCode l b = 0) : (∀ x ∈ l, vY x = true) ∧ b = true ∧ l.length ≤ 10 := by
  unfold yCode at h
  by_cases h1 : l.all vY = true
  · rw [if_pos h1] at h
    by_cases h2 : b = true
    · rw [if_pos h2] at h
      by_cases h3 : (l.length : Int) > 10
      · rw [if_pos h3] at h; omega
      · exact ⟨List.all_eq_true.1 h1, h2, by omega⟩
    · rw [if_neg h2] at h; omega
  · rw [if_neg h1] at h; omega
theorem wadd (a b : Int) : wrap64 (wrap64 a + b) = wrap64 (a + b) := by unfold wrap64; omega
theorem wsum (a b : Int) : wrap64 (a + wrap64 b) = wrap64 (a + b) := by unfold wrap64; omega
theorem size_same (a : Int) : spec_l01Size.f a = impl_size.f a := by
  unfold spec_l01Size.f spec_l00Max.f impl_size.f mx
  generalize wrap64 (-a) = w
  by_cases h : a > w
  · rw [if_pos h, if_neg (by omega)]; rfl
  · rw [if_neg h]
    by_cases h2 : a < w
    · rw [if_pos h2]; rfl
    · rw [if_neg h2, show w = a by omega]; rfl
def pCode (l : List IY) (t : Int) : Int := if yCode l (decide (-2000 ≤ t ∧ t ≤ 2000)) = 0 then (if 2 ≤ (l.length : Int) ∧ (l.length : Int) ≤ 6 then 0 else 4) else yCode l (decide (-2000 ≤ t ∧ t ≤ 2000))
theorem spec_pCode (l : List IY) (t : Int) (hl : (l.length : Int) ≤ 140737488351232) : Ev (fun k => spec_l03Plies.f k l t) (pCode l t) := by
  unfold spec_l03Plies.f pCode
  simp only [l00In_f, Option.bind_some, if_dec]
  refine Ev.bind (spec_yCode l _ hl) ?_
  by_cases h : yCode l (decide (-2000 ≤ t ∧ t ≤ 2000)) = 0
  · simp only [h, if_true]
    by_cases h2 : 2 ≤ (l.length : Int) ∧ (l.length : Int) ≤ 6
    · simp only [if_pos h2]; exact Ev.now _
    · simp only [if_neg h2]; exact Ev.now _
  · simp only [if_neg h]; exact Ev.now _
theorem impl_pCode (l : List IY) (t : Int) (hl : (l.length : Int) ≤ 140737488351232) : impl_pliesCode.f l t = some (pCode l t) := by
  unfold impl_pliesCode.f impl_isTurns.f pCode impl_Yarn_46.f
  simp only [within_f, Option.bind_some, if_dec, impl_yCode l _ hl]
  by_cases h : yCode l (decide (-2000 ≤ t ∧ t ≤ 2000)) = 0
  · simp only [h, if_true]
    by_cases h2 : 2 ≤ (l.length : Int) ∧ (l.length : Int) ≤ 6
    · simp only [if_pos h2]
    · simp only [if_neg h2]
  · simp only [if_neg h]
theorem pCode_zero {l : List IY} {t : Int} (h : pCode l t = 0) : (∀ x ∈ l, vY x = true) ∧ (-2000 ≤ t ∧ t ≤ 2000) ∧ 2 ≤ l.length ∧ l.length ≤ 6 := by
  unfold pCode at h
  by_cases h1 : yCode l (decide (-2000 ≤ t ∧ t ≤ 2000)) = 0
  · rw [if_pos h1] at h
    obtain ⟨ha, hb, _⟩ := yCode_zero h1
    by_cases h2 : 2 ≤ (l.length : Int) ∧ (l.length : Int) ≤ 6
    · exact ⟨ha, by simpa using hb, by omega, by omega⟩
    · rw [if_neg h2] at h; omega
  · rw [if_neg h1] at h; exact absurd h h1
theorem min_same (a b : Int) : spec_l00Min.f a b = some (mn a b) := by
  unfold spec_l00Min.f mn
  by_cases h : a < b
  · rw [if_pos h, if_neg (by omega)]
  · rw [if_neg h]
    by_cases h2 : b < a
    · rw [if_pos h2]
    · rw [if_neg h2, show a = b by omega]
theorem plied_loop (l : List IY) (t : Int) (hl : (l.length : Int) ≤ 140737488351232) (d : Nat) : ∀ (i : Nat) (acc : Int), i + d = l.length →
    Same (fun k => spec_l03Plied.l0 k l t acc (i : Int)) (fun k => impl_plyLong.l0 k t acc l (l.length : Int) (i : Int)) := by
  induction d with
  | zero =>
    intro i acc hi
    refine Same.step (f' := fun _ => some (wrap64 (acc - wrap64 (Int.tdiv (mx t (wrap64 (-t))) 50)))) (g' := fun _ => some (wrap64 (acc - wrap64 (Int.tdiv (mx t (wrap64 (-t))) 50)))) (fun k => ?_) (fun k => ?_) (Same.now _)
    · simp only [spec_l03Plied.l0, size_same, impl_size.f, Option.bind_some]; rw [if_neg (by omega)]
    · simp only [impl_plyLong.l0, impl_size.f, Option.bind_some]; rw [if_neg (by omega)]
  | succ d ih =>
    intro i acc hi
    have hil : i < l.length := by omega
    refine Same.step (fun k => ?_) (fun k => ?_) (ih (i + 1) (mn acc (wrap64 l[i].f0)) (by omega))
    · simp only [spec_l03Plied.l0, rdIY hil, min_same, Option.bind_some]
      rw [if_pos (by omega), if_pos (by omega), wr (n := (i : Int) + 1) (by omega) (by omega)]; rfl
    · simp only [impl_plyLong.l0, rdIY hil]
      rw [if_pos (by omega), if_pos (by omega), if_pos (by omega), wr (n := (i : Int) + 1) (by omega) (by omega)]; rfl
theorem plied_same (l : List IY) (t : Int) (h1 : ∀ x ∈ l, vY x = true) (h2 : 2 ≤ l.length) (h3 : l.length ≤ 6) : Same (fun k => spec_l03Plied.f k l t) (fun k => impl_plyLong.f k l t) := by
  have hv := h1 l[0] (List.getElem_mem _)
  unfold vY at hv
  have hv' := of_decide_eq_true hv
  have h := plied_loop l t (by omega) (l.length - 1) 1 (wrap64 l[0].f0) (by omega)
  have hr : rd_T33 l 0 = l[0] := rdIY (i := 0) (by omega)
  unfold spec_l03Plied.f impl_plyLong.f
  rw [hr]
  have h0 : (0 : Int) < (l.length : Int) := by omega
  simp only [if_pos h0]
  refine Same.right (fun k => ?_) h
  have hm : mn 5000 (wrap64 l[0].f0) = wrap64 l[0].f0 := by unfold mn; split <;> omega
  simp only [impl_plyLong.l0, hr]
  rw [if_pos h0, if_pos (by omega), if_pos h0, hm, wr (n := 0 + 1) (by omega) (by omega)]; rfl
def sumL (l : List IY) : Int := (l.map fun x => x.f0).sum
def sumT (l : List IY) : Int := (l.map fun x => x.f1).sum
def sumG (l : List IY) : Int := (l.map fun x => x.f2).sum
theorem sum_cons (l : List IY) (i : Nat) (h : i < l.length) : sumL (l.drop i) = l[i].f0 + sumL (l.drop (i + 1)) ∧ sumT (l.drop i) = l[i].f1 + sumT (l.drop (i + 1)) ∧ sumG (l.drop i) = l[i].f2 + sumG (l.drop (i + 1)) := by
  unfold sumL sumT sumG
  rw [List.drop_eq_getElem_cons h]; simp only [List.map_cons, List.sum_cons, and_self]
theorem make_same (a b c : Int) : spec_l03Make.f a b c = impl_makeYarn.f a b c := by
  unfold spec_l03Make.f impl_makeYarn.f
  simp only [l00In_f, within_f, Option.bind_some]
theorem impl_sums_loop (l : List IY) (hl : (l.length : Int) ≤ 140737488351232) (d : Nat) : ∀ (i : Nat) (a b c : Int), i + d = l.length →
    Ev (fun k => impl_sums.l0 k (wrap64 a) (wrap64 b) (wrap64 c) l (l.length : Int) (i : Int)) (wrap64 (a + sumL (l.drop i)), wrap64 (b + sumT (l.drop i)), wrap64 (c + sumG (l.drop i))) := by
  induction d with
  | zero =>
    intro i a b c hi
    refine Ev.step (f := fun _ => some (wrap64 a, wrap64 b, wrap64 c)) (fun k => ?_) (ev_id (Ev.now _) ?_)
    · simp only [impl_sums.l0]; rw [if_neg (by omega)]
    · rw [List.drop_eq_nil_of_le (by omega)]; simp [sumL, sumT, sumG]
  | succ d ih =>
    intro i a b c hi
    have hil : i < l.length := by omega
    obtain ⟨s1, s2, s3⟩ := sum_cons l i hil
    refine Ev.step (fun k => ?_) (ev_id (ih (i + 1) (a + l[i].f0) (b + l[i].f1) (c + l[i].f2) (by omega)) ?_)
    · simp only [impl_sums.l0, rdIY hil]
      rw [if_pos (by omega), if_pos (by omega), if_pos (by omega), wr (n := (i : Int) + 1) (by omega) (by omega), wsum, wadd, wsum, wadd, wsum, wadd]; rfl
    · rw [s1, s2, s3]; simp only [Int.add_assoc]
theorem impl_sums_ev (l : List IY) (hl : (l.length : Int) ≤ 140737488351232) : Ev (fun k => impl_sums.f k l) (wrap64 (sumL l), wrap64 (sumT l), wrap64 (sumG l)) := by
  unfold impl_sums.f
  have := impl_sums_loop l hl l.length 0 0 0 0 (by omega)
  simpa [w00] using this
/-- A whole number's size. -/
def ab (x : Int) : Int := if x < -x then -x else x
theorem size_ab {x : Int} (h : -1000000 ≤ x ∧ x ≤ 1000000) : spec_l01Size.f x = some (ab x) := by
  unfold spec_l01Size.f spec_l00Max.f ab
  rw [wr (n := -x) (by omega) (by omega)]
  by_cases h1 : x > -x
  · rw [if_pos h1, if_neg (by omega)]; rfl
  · rw [if_neg h1]
    by_cases h2 : x < -x
    · rw [if_pos h2]; rfl
    · rw [if_neg h2, show -x = x by omega]; rfl
theorem ab_or (x : Int) : (ab x = x ∧ 0 ≤ x) ∨ (ab x = -x ∧ x ≤ 0) := by
  unfold ab
  by_cases h : x < -x
  · rw [if_pos h]; exact .inr ⟨rfl, by omega⟩
  · rw [if_neg h]; exact .inl ⟨rfl, by omega⟩
theorem ab_bd {x n : Int} (h : -n ≤ x ∧ x ≤ n) : 0 ≤ ab x ∧ ab x ≤ n := by unfold ab; split <;> omega
/-- What yarns leave over at a number of turns. -/
def restT (l : List IY) (t : Int) : Int := (l.map fun y => ab (y.f1 + t)).sum
def OkT (l : List IY) : Prop := ∀ x ∈ l, -2000 ≤ x.f1 ∧ x.f1 ≤ 2000
theorem restT_cons (y : IY) (l : List IY) (t : Int) : restT (y :: l) t = ab (y.f1 + t) + restT l t := by simp [restT]
theorem restT_bd : ∀ (l : List IY) (t : Int), OkT l → (-2000 ≤ t ∧ t ≤ 2000) → 0 ≤ restT l t ∧ restT l t ≤ 4000 * (l.length : Int)
  | [], t, _, _ => by simp [restT]
  | y :: l, t, h, ht => by
    have hy := h y (by simp)
    have a := ab_bd (x := y.f1 + t) (n := 4000) (by omega)
    have b := restT_bd l t (fun x hx => h x (List.mem_cons_of_mem _ hx)) ht
    rw [restT_cons, List.length_cons]
    omega
theorem rest_ev (l : List IY) (hl : l.length ≤ 10) (ho : OkT l) (t : Int) (ht : -2000 ≤ t ∧ t ≤ 2000) (d : Nat) : ∀ (i : Nat) (acc : Int), i + d = l.length → 0 ≤ acc → acc + 4000 * (d : Int) ≤ 40000 →
    Ev (fun k => spec_l03Rest.l0 k l t acc (i : Int)) (acc + restT (l.drop i) t) := by
  induction d with
  | zero =>
    intro i acc hi h0 h1
    refine Ev.step (f := fun _ => some (acc + restT (l.drop i) t)) (fun k => ?_) (Ev.now _)
    simp only [spec_l03Rest.l0]
    rw [if_neg (by omega), List.drop_eq_nil_of_le (by omega)]
    simp [restT]
  | succ d ih =>
    intro i acc hi h0 h1
    have hil : i < l.length := by omega
    have hy := ho l[i] (List.getElem_mem _)
    have a := ab_bd (x := l[i].f1 + t) (n := 4000) (by omega)
    refine Ev.step (fun k => ?_) (ev_id (ih (i + 1) (acc + ab (l[i].f1 + t)) (by omega) (by omega) (by omega)) ?_)
    · simp only [spec_l03Rest.l0, rdIY hil]
      rw [if_pos (by omega), if_pos (by omega), wr (n := l[i].f1) (by omega) (by omega), wr (n := l[i].f1 + t) (by omega) (by omega), size_ab (by omega), Option.bind_some, wr (n := acc + ab (l[i].f1 + t)) (by omega) (by omega), wr (n := (i : Int) + 1) (by omega) (by omega)]
      rfl
    · rw [List.drop_eq_getElem_cons hil, restT_cons]; omega
theorem rest_evf (l : List IY) (hl : l.length ≤ 10) (ho : OkT l) (t : Int) (ht : -2000 ≤ t ∧ t ≤ 2000) : Ev (fun k => spec_l03Rest.f k l t) (restT l t) := by
  unfold spec_l03Rest.f
  have h := rest_ev l hl ho t ht l.length 0 0 (by omega) (by omega) (by omega)
  exact ev_id h (by simp)
/-- The turns with the least rest. -/
theorem balT (l : List IY) (hl : l.length ≤ 10) (ho : OkT l) (d : Nat) : ∀ (n b : Int), 1 ≤ n → n + d = 2001 → (-2000 ≤ b ∧ b ≤ 2000) → (∀ t, -n < t → t < n → restT l b ≤ restT l t) →
    ∃ c, Ev (fun k => spec_l03Balance.l0 k l b (restT l b) n) (c, restT l c) ∧ (-2000 ≤ c ∧ c ≤ 2000) ∧ ∀ t, -2000 ≤ t → t ≤ 2000 → restT l c ≤ restT l t := by
  induction d with
  | zero =>
    intro n b h1 hn hb hm
    refine ⟨b, Ev.step (f := fun _ => some (b, restT l b)) (fun k => ?_) (Ev.now _), hb, fun t h2 h3 => hm t (by omega) (by omega)⟩
    simp only [spec_l03Balance.l0]; rw [if_neg (by omega)]
  | succ d ih =>
    intro n b h1 hn hb hm
    have w1 : wrap64 (-n) = -n := wr (by omega) (by omega)
    have w2 : wrap64 (n + 1) = n + 1 := wr (by omega) (by omega)
    have hn2 : n ≤ 2000 := by omega
    have e1 := rest_evf l hl ho n (by omega)
    have e2 := rest_evf l hl ho (-n) (by omega)
    by_cases c1 : restT l n < restT l b
    · by_cases c2 : restT l (-n) < restT l n
      · obtain ⟨c, h, hc, hall⟩ := ih (n + 1) (-n) (by omega) (by omega) (by omega) (by
          intro t h2 h3
          rcases (by omega : t = n ∨ t = -n ∨ (-n < t ∧ t < n)) with rfl | rfl | h4
          · omega
          · omega
          · have := hm t h4.1 h4.2; omega)
        refine ⟨c, Ev.step (fun k => by simp only [spec_l03Balance.l0, w1, w2]; rw [if_pos hn2]) (Ev.bind e1 ?_), hc, hall⟩
        simp only [if_pos c1]
        refine Ev.bind e2 ?_
        simp only [if_pos c2]; exact h
      · obtain ⟨c, h, hc, hall⟩ := ih (n + 1) n (by omega) (by omega) (by omega) (by
          intro t h2 h3
          rcases (by omega : t = n ∨ t = -n ∨ (-n < t ∧ t < n)) with rfl | rfl | h4
          · omega
          · omega
          · have := hm t h4.1 h4.2; omega)
        refine ⟨c, Ev.step (fun k => by simp only [spec_l03Balance.l0, w1, w2]; rw [if_pos hn2]) (Ev.bind e1 ?_), hc, hall⟩
        simp only [if_pos c1]
        refine Ev.bind e2 ?_
        simp only [if_neg c2]; exact h
    · by_cases c2 : restT l (-n) < restT l b
      · obtain ⟨c, h, hc, hall⟩ := ih (n + 1) (-n) (by omega) (by omega) (by omega) (by
          intro t h2 h3
          rcases (by omega : t = n ∨ t = -n ∨ (-n < t ∧ t < n)) with rfl | rfl | h4
          · omega
          · omega
          · have := hm t h4.1 h4.2; omega)
        refine ⟨c, Ev.step (fun k => by simp only [spec_l03Balance.l0, w1, w2]; rw [if_pos hn2]) (Ev.bind e1 ?_), hc, hall⟩
        simp only [if_neg c1]
        refine Ev.bind e2 ?_
        simp only [if_pos c2]; exact h
      · obtain ⟨c, h, hc, hall⟩ := ih (n + 1) b (by omega) (by omega) (by omega) (by
          intro t h2 h3
          rcases (by omega : t = n ∨ t = -n ∨ (-n < t ∧ t < n)) with rfl | rfl | h4
          · omega
          · omega
          · have := hm t h4.1 h4.2; omega)
        refine ⟨c, Ev.step (fun k => by simp only [spec_l03Balance.l0, w1, w2]; rw [if_pos hn2]) (Ev.bind e1 ?_), hc, hall⟩
        simp only [if_neg c1]
        refine Ev.bind e2 ?_
        simp only [if_neg c2]; exact h
/-- The balance of yarns: turns, and the least rest of all. -/
theorem balance_ev (l : List IY) (hl : l.length ≤ 10) (ho : OkT l) : ∃ c, Ev (fun k => spec_l03Balance.f k l) (c, restT l c) ∧ (-2000 ≤ c ∧ c ≤ 2000) ∧ ∀ t, -2000 ≤ t → t ≤ 2000 → restT l c ≤ restT l t := by
  obtain ⟨c, h, hc, hall⟩ := balT l hl ho 2000 1 0 (by omega) (by omega) (by omega) (by
    intro t h2 h3
    obtain rfl : t = 0 := by omega
    exact Int.le_refl _)
  refine ⟨c, ?_, hc, hall⟩
  unfold spec_l03Balance.f
  exact Ev.bind (rest_evf l hl ho 0 (by omega)) h
/-- Of two yarns. -/
theorem balance_two (y z : IY) (hy : -2000 ≤ y.f1 ∧ y.f1 ≤ 2000) (hz : -2000 ≤ z.f1 ∧ z.f1 ≤ 2000) : ∃ c, Ev (fun k => spec_l03Balance.f k [y, z]) (c, ab (y.f1 - z.f1)) := by
  obtain ⟨c, h, hc, hall⟩ := balance_ev [y, z] (by simp) (by
    intro x hx
    simp only [List.mem_cons, List.not_mem_nil, or_false] at hx
    rcases hx with rfl | rfl
    · exact hy
    · exact hz)
  refine ⟨c, ev_id h ?_⟩
  have h1 := hall (-y.f1) (by omega) (by omega)
  have e : ∀ t, restT [y, z] t = ab (y.f1 + t) + ab (z.f1 + t) := by intro t; simp [restT]
  rw [e, e] at h1
  rw [e]
  have q : ab (y.f1 + c) + ab (z.f1 + c) = ab (y.f1 - z.f1) := by
    have h2 : ab (y.f1 + -y.f1) = 0 := by unfold ab; split <;> omega
    rw [h2] at h1
    rcases ab_or (y.f1 + c) with ⟨a1, a2⟩ | ⟨a1, a2⟩ <;> rcases ab_or (z.f1 + c) with ⟨b1, b2⟩ | ⟨b1, b2⟩ <;> rcases ab_or (z.f1 + -y.f1) with ⟨c1, c2⟩ | ⟨c1, c2⟩ <;> rcases ab_or (y.f1 - z.f1) with ⟨d1, d2⟩ | ⟨d1, d2⟩ <;> rw [a1, b1, c1] at h1 <;> rw [a1, b1, d1] <;> omega
  rw [q]
abbrev IP := S41
theorem rdIP {l : List IP} {i : Nat} (h : i < l.length) : rd_T41 l (i : Int) = l[i] := by
  unfold rd_T41; simp [List.getD, h]
/-- Numbers, as the program has them. -/
def up (N : List Nat) : List Int := N.map fun (j : Nat) => (j : Int)
theorem up_len (N : List Nat) : (up N).length = N.length := by unfold up; simp
theorem rd_up {N : List Nat} {j : Nat} (h : j < N.length) : rd (up N) (j : Int) = ((N[j] : Nat) : Int) := by
  unfold rd up; simp [List.getD, h]
theorem bit_bf : ∀ b : Nat, b < 1024 → ∀ i : Nat, i < 10 → decide (Go.bits .and .i64 (shr .i64 (b : Int) (i : Int)) 1 = 1) = b.testBit i := by decide +kernel
theorem bit0_bf : ∀ b : Nat, b < 1024 → ∀ i : Nat, i < 10 → decide (Go.bits .and .i64 (shr .i64 (b : Int) (i : Int)) 1 = 0) = !b.testBit i := by decide +kernel
theorem or_bf : ∀ b : Nat, b < 1024 → ∀ i : Nat, i < 10 → Go.bits .or .i64 (b : Int) (shl .i64 1 (i : Int)) = ((b ||| 2 ^ i : Nat) : Int) := by decide +kernel
theorem mem0_bf : ∀ n : Nat, n < 11 → impl_members.f 13 (wrap64 (shl .i64 1 (n : Int) - 1)) = some (up (List.range n)) := by decide +kernel
theorem members0_ev {n : Nat} (h : n < 11) : Ev (fun k => impl_members.f k (wrap64 (shl .i64 1 (n : Int) - 1))) (up (List.range n)) :=
  ⟨13, fun k hk => at_rounds (fun k => impl_members.mono _ k) hk (mem0_bf n h)⟩
theorem or_lt {b i : Nat} (hb : b < 1024) (hi : i < 10) : b ||| 2 ^ i < 1024 := by
  have h2 : 2 ^ i < 2 ^ 10 := Nat.pow_lt_pow_right (by decide) hi
  exact Nat.or_lt_two_pow (n := 10) hb h2
theorem or_bit (b i j : Nat) : (b ||| 2 ^ i).testBit j = (b.testBit j || decide (i = j)) := by
  rw [Nat.testBit_or, Nat.testBit_two_pow]
theorem up_app (A B : List Nat) : up (A ++ B) = up A ++ up B := by simp [up]
theorem up_take (A : List Nat) (n : Nat) : (up A).take n = up (A.take n) := by simp [up]
theorem up_drop (A : List Nat) (n : Nat) : (up A).drop n = up (A.drop n) := by simp [up]
/-- How far two yarns' twists are apart. -/
def tw (l : List IY) (i : Nat) : Int := (rd_T33 l (i : Int)).f1
def rs (l : List IY) (a b : Nat) : Int := ab (tw l a - tw l b)
def toP (p : Nat × Nat) : IP := ⟨(p.1 : Int), (p.2 : Int)⟩
def upP (P : List (Nat × Nat)) : List IP := P.map toP
def sumP (l : List IY) (P : List (Nat × Nat)) : Int := (P.map fun p => rs l p.1 p.2).sum
theorem upP_len (P : List (Nat × Nat)) : (upP P).length = P.length := by simp [upP]
theorem upP_app (P Q : List (Nat × Nat)) : upP (P ++ Q) = upP P ++ upP Q := by simp [upP]
theorem sumP_app (l : List IY) (P Q : List (Nat × Nat)) : sumP l (P ++ Q) = sumP l P + sumP l Q := by simp [sumP]
section
variable (l : List IY) (hl : l.length ≤ 10) (ho : OkT l)
include ho
theorem tw_bd {i : Nat} (hi : i < l.length) : -2000 ≤ tw l i ∧ tw l i ≤ 2000 := by
  unfold tw; rw [rdIY hi]; exact ho _ (List.getElem_mem _)
theorem rs_bd {a b : Nat} (ha : a < l.length) (hb : b < l.length) : 0 ≤ rs l a b ∧ rs l a b ≤ 4000 := by
  have x := tw_bd l ho ha
  have y := tw_bd l ho hb
  exact ab_bd (by omega)
theorem sumP_bd : ∀ (P : List (Nat × Nat)), (∀ p ∈ P, p.1 < l.length ∧ p.2 < l.length) → 0 ≤ sumP l P ∧ sumP l P ≤ 4000 * (P.length : Int)
  | [], _ => by simp [sumP]
  | p :: P, h => by
    have a := rs_bd l ho (h p (by simp)).1 (h p (by simp)).2
    have b := sumP_bd P (fun q hq => h q (List.mem_cons_of_mem _ hq))
    have e : sumP l (p :: P) = rs l p.1 p.2 + sumP l P := by simp [sumP]
    rw [e, List.length_cons]; omega
theorem rest1 {a b : Nat} (ha : a < l.length) (hb : b < l.length) : impl_MatchSingles_1.rest l (toP (a, b)) = some (rs l a b) := by
  have x := tw_bd l ho ha
  have y := tw_bd l ho hb
  unfold impl_MatchSingles_1.rest toP
  have c : (0 : Int) ≤ (a : Int) ∧ (a : Int) < (l.length : Int) ∧ (0 : Int) ≤ (b : Int) ∧ (b : Int) < (l.length : Int) := by omega
  simp only [if_pos c]
  have e1 : (rd_T33 l (a : Int)).f1 = tw l a := rfl
  have e2 : (rd_T33 l (b : Int)).f1 = tw l b := rfl
  rw [e1, e2, wr (n := tw l a) (by omega) (by omega), wr (n := tw l b) (by omega) (by omega), wr (n := tw l a - tw l b) (by omega) (by omega), ← size_same, size_ab (by omega)]
  rfl
theorem sum1 : ∀ (P : List (Nat × Nat)) (s : Int), (∀ p ∈ P, p.1 < l.length ∧ p.2 < l.length) → 0 ≤ s → s + 4000 * (P.length : Int) ≤ 1000000 → impl_MatchSingles_1.sum l (upP P) s = some (s + sumP l P)
  | [], s, _, _, _ => by simp [upP, impl_MatchSingles_1.sum, sumP]
  | (a, b) :: P, s, h, h0, h1 => by
    have hp := h (a, b) (by simp)
    have r : 0 ≤ rs l a b ∧ rs l a b ≤ 4000 := rs_bd l ho hp.1 hp.2
    rw [List.length_cons] at h1
    show impl_MatchSingles_1.sum l (toP (a, b) :: upP P) s = _
    rw [impl_MatchSingles_1.sum, rest1 l ho hp.1 hp.2, Option.bind_some, wr (n := s + rs l a b) (by omega) (by omega), sum1 P _ (fun q hq => h q (List.mem_cons_of_mem _ hq)) (by omega) (by omega)]
    congr 1
    have e : sumP l ((a, b) :: P) = rs l a b + sumP l P := by simp [sumP]
    rw [e]; omega
/-- Pairs that are too far apart: nothing better comes of them. -/
theorem none_better (hl : l.length ≤ 10) (B : List IP) (m : Int) (hm : 0 ≤ m) : ∀ (d : Nat) (L : List Nat) (P : List (Nat × Nat)), L.length = 2 * d → P.length + d ≤ 5 → (∀ i ∈ L, i < l.length) → (∀ p ∈ P, p.1 < l.length ∧ p.2 < l.length) → m ≤ sumP l P →
    Ev (fun k => impl_matches.f l k (up L) (upP P) B m) (B, m) := by
  intro d
  induction d with
  | zero =>
    intro L P hL hP hi hp hs
    have e0 : (up L).length = 0 := by rw [up_len]; omega
    refine Ev.step (f := fun _ => some (B, m)) (fun k => ?_) (Ev.now _)
    rw [impl_matches.f, if_pos e0]
    unfold impl_MatchSingles_1.f
    rw [sum1 l ho P 0 hp (by omega) (by omega), Option.bind_some, if_neg (by omega)]
  | succ d ih =>
    intro L P hL hP hi hp hs
    have e0 : ¬ (up L).length = 0 := by rw [up_len]; omega
    refine Ev.step (fun k => by rw [impl_matches.f, if_neg e0]) ?_
    have loop : ∀ (e x : Nat), 1 ≤ x → x + e = L.length → Ev (fun k => impl_matches.l0 l k (up L) (upP P) x B m) (B, m) := by
      intro e
      induction e with
      | zero =>
        intro x h1 hx
        refine Ev.step (f := fun _ => some (B, m)) (fun k => ?_) (Ev.now _)
        rw [impl_matches.l0, if_neg (by rw [up_len]; omega)]
      | succ e ih2 =>
        intro x h1 hx
        have g : 1 ≤ x ∧ (up L).length ≤ 500 ∧ (upP P).length ≤ 1048576 := by rw [up_len, upP_len]; omega
        have hx0 : 0 < L.length := by omega
        have hxl : x < L.length := by omega
        refine Ev.step (fun k => by rw [impl_matches.l0, if_pos (by rw [up_len]; omega), if_pos g]) ?_
        have r0 := rd_up hx0
        have rx := rd_up hxl
        have q0 := hi L[0] (List.getElem_mem _)
        have qx := hi L[x] (List.getElem_mem _)
        have eP : upP P ++ [(⟨rd (up L) 0, rd (up L) (x : Int)⟩ : IP)] = upP (P ++ [(L[0], L[x])]) := by
          rw [upP_app, rx]
          have : rd (up L) 0 = ((L[0] : Nat) : Int) := r0
          rw [this]; rfl
        rw [eP, up_take, up_drop, up_drop, ← up_app]
        have hsub : ∀ i ∈ ((L.take x).drop 1 ++ L.drop (x + 1)), i ∈ L := by
          intro i h
          rcases List.mem_append.1 h with h | h
          · exact List.mem_of_mem_take (List.mem_of_mem_drop h)
          · exact List.mem_of_mem_drop h
        refine Ev.bind (ih ((L.take x).drop 1 ++ L.drop (x + 1)) (P ++ [(L[0], L[x])]) (by simp [List.length_take]; omega) (by simp; omega) (fun i h => hi i (hsub i h)) (by
          intro p hpp
          rcases List.mem_append.1 hpp with h | h
          · exact hp p h
          · simp at h; subst h; exact ⟨q0, qx⟩) (by
          rw [sumP_app]
          have := rs_bd l ho q0 qx
          have e : sumP l [(L[0], L[x])] = rs l L[0] L[x] := by simp [sumP]
          rw [e]; omega)) ?_
        exact ih2 (x + 1) (by omega) (by omega)
    exact loop (L.length - 1) 1 (by omega) (by omega)
end
/-- The first one that has no pair. -/
theorem skip_ev {u : Nat} (hu : u < 1024) {a : Nat} (ha : a < 10) (hb : ∀ i, i < a → u.testBit i = true) (h0 : u.testBit a = false) : ∀ (e j : Nat), j + e = a → Ev (fun k => spec_l03Match_from.skip k (u : Int) j) a := by
  intro e
  induction e with
  | zero =>
    intro j hj
    obtain rfl : j = a := by omega
    have q := bit_bf u hu j ha
    rw [h0] at q
    have q' := of_decide_eq_false q
    refine Ev.step (f := fun _ => some j) (fun k => ?_) (Ev.now _)
    rw [spec_l03Match_from.skip, if_pos (by omega), if_neg q']
  | succ e ih =>
    intro j hj
    have q := bit_bf u hu j (by omega)
    rw [hb j (by omega)] at q
    have q' := of_decide_eq_true q
    refine Ev.step (fun k => ?_) (ih (j + 1) (by omega))
    rw [spec_l03Match_from.skip, if_pos (by omega), if_pos q']
/-- How the two searches' states hang together. -/
def MR (mi ms : Int) (fd : Bool) : Prop := (fd = true ∧ mi = ms ∧ 0 ≤ ms) ∨ (fd = false ∧ mi = -1)
theorem MR.found {mi ms : Int} {fd : Bool} (h : MR mi ms fd) (hf : fd = true) : mi = ms ∧ 0 ≤ ms := by
  rcases h with ⟨_, a, b⟩ | ⟨a, _⟩
  · exact ⟨a, b⟩
  · rw [hf] at a; cases a
/-- The table of rests. -/
def TabR (l : List IY) (R : List Int) : Prop := ∀ a b, a < b → b < l.length → R.getD (a * 10 + b) 0 = rs l a b
theorem match_go (l : List IY) (hl : l.length ≤ 10) (ho : OkT l) (R : List Int) (hR : TabR l R) : ∀ (d : Nat) (L : List Nat) (P : List (Nat × Nat)) (u : Nat) (B : List IP) (mi ms : Int) (fd : Bool), L.length = 2 * d → 2 * P.length + L.length = l.length → u < 1024 → L.Pairwise (· < ·) → (∀ i ∈ L, i < l.length) → (∀ i, i < l.length → (u.testBit i = false ↔ i ∈ L)) → (∀ p ∈ P, p.1 < l.length ∧ p.2 < l.length) → B.length ≤ 10 → MR mi ms fd →
    ∃ (B' : List IP) (m' : Int), Ev (fun k => spec_l03Match_from.f R (l.length : Int) k (upP P) (u : Int) (sumP l P) B ms fd) (B', m', true) ∧ Ev (fun k => impl_matches.f l k (up L) (upP P) B mi) (B', m') ∧ 0 ≤ m' ∧ B'.length ≤ 10 := by
  intro d
  induction d with
  | zero =>
    intro L P u B mi ms fd hL hP hu hs hi hb hp hB hM
    have e0 : (up L).length = 0 := by rw [up_len]; omega
    have sb := sumP_bd l ho P hp
    have s1 := sum1 l ho P 0 hp (by omega) (by omega)
    have gl : (upP P).length ≤ 1048576 := by rw [upP_len]; omega
    have g2 : 2 * ((upP P).length : Int) = (l.length : Int) := by rw [upP_len]; omega
    by_cases c : fd = true ∧ sumP l P ≥ ms
    · obtain ⟨m1, m2⟩ := hM.found c.1
      obtain ⟨rfl, c2⟩ := c
      refine ⟨B, ms, Ev.step (f := fun _ => some (B, ms, true)) (fun k => by rw [spec_l03Match_from.f, if_pos ⟨rfl, c2⟩]) (Ev.now _), Ev.step (f := fun _ => some (B, ms)) (fun k => ?_) (Ev.now _), m2, hB⟩
      rw [impl_matches.f, if_pos e0]
      unfold impl_MatchSingles_1.f
      rw [s1, Option.bind_some, if_neg (by omega), m1]
    · refine ⟨upP P, sumP l P, Ev.step (f := fun _ => some (upP P, sumP l P, true)) (fun k => by rw [spec_l03Match_from.f, if_neg c, if_pos gl, if_pos g2]) (Ev.now _), Ev.step (f := fun _ => some (upP P, sumP l P)) (fun k => ?_) (Ev.now _), sb.1, by rw [upP_len]; omega⟩
      rw [impl_matches.f, if_pos e0]
      unfold impl_MatchSingles_1.f
      have c2 : mi < 0 ∨ 0 + sumP l P < mi := by
        rcases hM with ⟨a, b, e⟩ | ⟨a, b⟩
        · right
          have : ¬ sumP l P ≥ ms := fun z => c ⟨a, z⟩
          omega
        · left; omega
      rw [s1, Option.bind_some, if_pos c2, Int.zero_add]
  | succ d ih =>
    intro L P u B mi ms fd hL hP hu hs hi hb hp hB hM
    have e0 : ¬ (up L).length = 0 := by rw [up_len]; omega
    have gl : (upP P).length ≤ 1048576 := by rw [upP_len]; omega
    have g2 : ¬ 2 * ((upP P).length : Int) = (l.length : Int) := by rw [upP_len]; omega
    have sb := sumP_bd l ho P hp
    by_cases c : fd = true ∧ sumP l P ≥ ms
    · obtain ⟨m1, m2⟩ := hM.found c.1
      obtain ⟨rfl, c2⟩ := c
      subst m1
      exact ⟨B, mi, Ev.step (f := fun _ => some (B, mi, true)) (fun k => by rw [spec_l03Match_from.f, if_pos ⟨rfl, c2⟩]) (Ev.now _), none_better l ho hl B mi m2 (d + 1) L P hL (by omega) hi hp c2, m2, hB⟩
    · obtain ⟨a, t, rfl⟩ : ∃ a t, L = a :: t := by
        cases L with
        | nil => simp at hL
        | cons a t => exact ⟨a, t, rfl⟩
      rw [List.pairwise_cons] at hs
      obtain ⟨hat, hst⟩ := hs
      have hal := hi a (by simp)
      have ha0 : u.testBit a = false := (hb a hal).2 (by simp)
      have hlow : ∀ i, i < a → u.testBit i = true := by
        intro i h
        cases q : u.testBit i with
        | true => rfl
        | false =>
          have := (hb i (by omega)).1 q
          rcases List.mem_cons.1 this with r | r
          · omega
          · have := hat i r; omega
      have sk := skip_ev hu (by omega) hlow ha0 a 0 (by omega)
      -- the loop over the second ones
      have loop : ∀ (e b : Nat) (X Y : List Nat) (B : List IP) (mi ms : Int) (fd : Bool), b + e = l.length → a < b → t = X ++ Y → (∀ i ∈ X, i < b) → (∀ i ∈ Y, b ≤ i) → B.length ≤ 10 → MR mi ms fd →
          ∃ (B' : List IP) (mi' ms' : Int) (fd' : Bool), Ev (fun k => spec_l03Match_from.l0 R (l.length : Int) k (upP P) (u : Int) (sumP l P) a b B ms fd) (B', ms', fd') ∧ Ev (fun k => impl_matches.l0 l k (up (a :: t)) (upP P) (X.length + 1) B mi) (B', mi') ∧ MR mi' ms' fd' ∧ B'.length ≤ 10 ∧ (fd = true ∨ Y ≠ [] → fd' = true) := by
        intro e
        induction e with
        | zero =>
          intro b X Y B mi ms fd hbe hab ht hX hY hB hM
          have hY0 : Y = [] := by
            cases Y with
            | nil => rfl
            | cons y Y =>
              have := hY y (by simp)
              have := hi y (by rw [ht]; simp)
              omega
          subst hY0
          refine ⟨B, mi, ms, fd, Ev.step (f := fun _ => some (B, ms, fd)) (fun k => by rw [spec_l03Match_from.l0, if_neg (by omega)]) (Ev.now _), Ev.step (f := fun _ => some (B, mi)) (fun k => by rw [impl_matches.l0, if_neg (by rw [up_len, ht]; simp)]) (Ev.now _), hM, hB, fun q => ?_⟩
          rcases q with q | q
          · exact q
          · exact absurd rfl q
        | succ e ih2 =>
          intro b X Y B mi ms fd hbe hab ht hX hY hB hM
          have hbl : b < l.length := by omega
          have gg : a < 10 ∧ b < 10 ∧ (upP P).length ≤ 1048576 := ⟨by omega, by omega, gl⟩
          have q := bit0_bf u hu b (by omega)
          cases hbit : u.testBit b with
          | true =>
            rw [hbit] at q
            have q' := of_decide_eq_false q
            have hnb : b ∉ (a :: t) := fun z => by
              have := (hb b hbl).2 z
              rw [hbit] at this; cases this
            obtain ⟨B', mi', ms', fd', s, i, m, bl, f⟩ := ih2 (b + 1) X Y B mi ms fd (by omega) (by omega) ht (fun i h => Nat.lt_succ_of_lt (hX i h)) (by
              intro i h
              have h1 := hY i h
              rcases Nat.lt_or_ge b i with h2 | h2
              · omega
              · have : i = b := by omega
                subst this
                exact absurd (by rw [ht]; simp [h]) hnb) hB hM
            exact ⟨B', mi', ms', fd', Ev.step (fun k => by rw [spec_l03Match_from.l0, if_pos (by omega), if_pos gg, if_neg q']) s, i, m, bl, f⟩
          | false =>
            rw [hbit] at q
            have q' := of_decide_eq_true q
            have hmb := (hb b hbl).1 hbit
            have hbY : b ∈ Y := by
              rcases List.mem_cons.1 hmb with h | h
              · omega
              · rw [ht] at h
                rcases List.mem_append.1 h with h | h
                · have := hX b h; omega
                · exact h
            obtain ⟨c, Y', rfl⟩ : ∃ c Y', Y = c :: Y' := by
              cases Y with
              | nil => cases hbY
              | cons c Y' => exact ⟨c, Y', rfl⟩
            have hst' := hst
            rw [ht, List.pairwise_append] at hst'
            obtain ⟨hX1, hY1, hXY⟩ := hst'
            rw [List.pairwise_cons] at hY1
            have hcb : c = b := by
              have h1 := hY c (by simp)
              rcases List.mem_cons.1 hbY with h | h
              · exact h.symm
              · have := hY1.1 b h; omega
            subst hcb
            have hx : X.length + 1 < (up (a :: t)).length := by rw [up_len, ht]; simp
            have hg : 1 ≤ X.length + 1 ∧ (up (a :: t)).length ≤ 500 ∧ (upP P).length ≤ 1048576 := ⟨by omega, by rw [up_len]; omega, gl⟩
            have eL : ((up (a :: t)).take (X.length + 1)).drop 1 ++ (up (a :: t)).drop (X.length + 1 + 1) = up (X ++ Y') := by
              rw [up_take, up_drop, up_drop, ← up_app, ht]
              congr 1
              simp
            have eP : upP P ++ [(⟨rd (up (a :: t)) 0, rd (up (a :: t)) ((X.length + 1 : Nat) : Int)⟩ : IP)] = upP (P ++ [(a, c)]) := by
              have r0 : rd (up (a :: t)) 0 = (a : Int) := rd_up (N := a :: t) (j := 0) (by simp)
              have rx := rd_up (N := a :: t) (j := X.length + 1) (by rw [ht]; simp)
              have ec : (a :: t)[X.length + 1]'(by rw [ht]; simp) = c := by simp [ht]
              rw [ec] at rx
              rw [upP_app, r0, rx]; rfl
            have eS : wrap64 (sumP l P + R.getD (a * 10 + c) 0) = sumP l (P ++ [(a, c)]) := by
              have r := rs_bd l ho hal hbl
              have e : sumP l [(a, c)] = rs l a c := by simp [sumP]
              rw [hR a c hab hbl, sumP_app, e, wr (by omega) (by omega)]
            have eN : upP P ++ [(⟨(a : Int), (c : Int)⟩ : IP)] = upP (P ++ [(a, c)]) := by rw [upP_app]; rfl
            have eU : Go.bits .or .i64 (Go.bits .or .i64 (u : Int) (shl .i64 1 (a : Int))) (shl .i64 1 (c : Int)) = ((u ||| 2 ^ a ||| 2 ^ c : Nat) : Int) := by
              rw [or_bf u hu a (by omega), or_bf _ (or_lt hu (by omega)) c (by omega)]
            have hlen : (X ++ Y').length = 2 * d := by
              have z := hL
              rw [ht] at z
              simp at z ⊢
              omega
            obtain ⟨B1, m1, s1, i1, p1, b1⟩ := ih (X ++ Y') (P ++ [(a, c)]) (u ||| 2 ^ a ||| 2 ^ c) B mi ms fd hlen (by
                have z := hP
                rw [ht] at z
                simp at z ⊢
                omega) (or_lt (or_lt hu (by omega)) (by omega)) (List.pairwise_append.2 ⟨hX1, hY1.2, fun x hx y hy => hXY x hx y (List.mem_cons_of_mem _ hy)⟩) (by
                intro i h
                refine hi i ?_
                rw [ht]
                rcases List.mem_append.1 h with h | h <;> simp [h]) (by
                intro i h
                rw [or_bit, or_bit]
                constructor
                · intro z
                  simp only [Bool.or_eq_false_iff, decide_eq_false_iff_not] at z
                  have := (hb i h).1 z.1.1
                  rw [ht] at this
                  rcases List.mem_cons.1 this with r | r
                  · exact absurd r.symm z.1.2
                  · rcases List.mem_append.1 r with r | r
                    · exact List.mem_append.2 (.inl r)
                    · rcases List.mem_cons.1 r with r | r
                      · exact absurd r.symm z.2
                      · exact List.mem_append.2 (.inr r)
                · intro z
                  have hm : i ∈ t := by
                    rw [ht]
                    rcases List.mem_append.1 z with r | r <;> simp [r]
                  have n1 : a ≠ i := by have := hat i hm; omega
                  have n2 : c ≠ i := by
                    rcases List.mem_append.1 z with r | r
                    · have := hX i r; omega
                    · have := hY1.1 i r; omega
                  have n0 := (hb i h).2 (List.mem_cons_of_mem _ hm)
                  rw [n0, decide_eq_false n1, decide_eq_false n2]; rfl) (by
                intro p h
                rcases List.mem_append.1 h with h | h
                · exact hp p h
                · simp at h; subst h; exact ⟨hal, hbl⟩) hB hM
            obtain ⟨B', mi', ms', fd', s, i, m, bl, f⟩ := ih2 (c + 1) (X ++ [c]) Y' B1 m1 m1 true (by omega) (by omega) (by rw [ht]; simp) (by
                intro i h
                rcases List.mem_append.1 h with h | h
                · have := hX i h; omega
                · simp at h; omega) (by intro i h; have := hY1.1 i h; omega) b1 (.inl ⟨rfl, rfl, p1⟩)
            refine ⟨B', mi', ms', fd', ?_, ?_, m, bl, fun _ => f (.inl rfl)⟩
            · refine Ev.step (fun k => by rw [spec_l03Match_from.l0, if_pos (by omega), if_pos gg, if_pos q', eN, eU, eS]) (Ev.bind s1 ?_)
              exact s
            · refine Ev.step (fun k => by rw [impl_matches.l0, if_pos hx, if_pos hg, eL, eP]) (Ev.bind i1 ?_)
              have z : (X ++ [c]).length + 1 = X.length + 1 + 1 := by simp
              rw [z] at i
              exact i
      obtain ⟨B', mi', ms', fd', s, i, m, bl, f⟩ := loop (l.length - (a + 1)) (a + 1) [] t B mi ms fd (by omega) (by omega) rfl (by simp) (fun i h => hat i h) hB hM
      have hne : t ≠ [] := fun z => by rw [z] at hL; simp at hL; omega
      have hf := f (.inr hne)
      subst hf
      obtain ⟨m1, m2⟩ := m.found rfl
      subst m1
      refine ⟨B', mi', Ev.step (fun k => by rw [spec_l03Match_from.f, if_neg c, if_pos gl, if_neg g2]) (Ev.bind sk s), Ev.step (fun k => by rw [impl_matches.f, if_neg e0]; rfl) i, m2, bl⟩
theorem inner_ev (l : List IY) (hl : l.length ≤ 10) (ho : OkT l) (a : Nat) (ha : a < l.length) : ∀ (g b : Nat) (R : List Int), R.length = 100 → b + g = l.length →
    ∃ R', Ev (fun k => spec_MatchSingles.inner k l a g b R) R' ∧ R'.length = 100 ∧ (∀ j, b ≤ j → j < l.length → R'.getD (a * 10 + j) 0 = rs l a j) ∧ (∀ i, i < a * 10 + b → R'.getD i 0 = R.getD i 0) := by
  intro g
  induction g with
  | zero =>
    intro b R hR hb
    exact ⟨R, Ev.now _, hR, fun j h1 h2 => by omega, fun _ _ => rfl⟩
  | succ g ih =>
    intro b R hR hb
    have hbl : b < l.length := by omega
    have x := tw_bd l ho ha
    have y := tw_bd l ho hbl
    obtain ⟨c, h⟩ := balance_two (rd_T33 l (a : Int)) (rd_T33 l (b : Int)) x y
    obtain ⟨R', h1, h2, h3, h4⟩ := ih (b + 1) (R.set (a * 10 + b) (rs l a b)) (by simpa using hR) (by omega)
    refine ⟨R', ?_, h2, ?_, ?_⟩
    · show Ev (fun k => (spec_l03Balance.f k [rd_T33 l (a : Int), rd_T33 l (b : Int)]).bind fun r => spec_MatchSingles.inner k l a g (b + 1) (R.set (a * 10 + b) r.2)) R'
      exact Ev.bind h h1
    · intro j hj1 hj2
      rcases Nat.lt_or_ge b j with h5 | h5
      · exact h3 j (by omega) hj2
      · obtain rfl : j = b := by omega
        rw [h4 _ (by omega)]
        simp [List.getD, List.getElem?_set, show a * 10 + j < R.length by omega]
    · intro i hi
      rw [h4 i (by omega)]
      have : a * 10 + b ≠ i := by omega
      simp [List.getD, List.getElem?_set, this]
theorem outer_ev (l : List IY) (hl : l.length ≤ 10) (ho : OkT l) : ∀ (g a : Nat) (R : List Int), R.length = 100 → a + g = l.length →
    ∃ R', Ev (fun k => spec_MatchSingles.outer k l g a R) R' ∧ R'.length = 100 ∧ (∀ c j, a ≤ c → c < j → j < l.length → R'.getD (c * 10 + j) 0 = rs l c j) ∧ (∀ i, i < a * 10 + (a + 1) → R'.getD i 0 = R.getD i 0) := by
  intro g
  induction g with
  | zero =>
    intro a R hR ha
    exact ⟨R, Ev.now _, hR, fun c j h1 h2 h3 => by omega, fun _ _ => rfl⟩
  | succ g ih =>
    intro a R hR ha
    obtain ⟨R1, i1, i2, i3, i4⟩ := inner_ev l hl ho a (by omega) (l.length - (a + 1)) (a + 1) R hR (by omega)
    obtain ⟨R', h1, h2, h3, h4⟩ := ih (a + 1) R1 i2 (by omega)
    refine ⟨R', ?_, h2, ?_, ?_⟩
    · show Ev (fun k => (spec_MatchSingles.inner k l a (l.length - (a + 1)) (a + 1) R).bind fun R2 => spec_MatchSingles.outer k l g (a + 1) R2) R'
      exact Ev.bind i1 h1
    · intro c j h5 h6 h7
      rcases Nat.lt_or_ge a c with h8 | h8
      · exact h3 c j (by omega) h6 h7
      · obtain rfl : c = a := by omega
        rw [h4 _ (by omega)]
        exact i3 j (by omega) h7
    · intro i hi
      rw [h4 i (by omega), i4 i (by omega)]
theorem tab_ev (l : List IY) (hl : l.length ≤ 10) (ho : OkT l) : ∃ R, Ev (fun k => spec_MatchSingles.outer k l l.length 0 (List.replicate 100 0)) R ∧ TabR l R := by
  obtain ⟨R, h1, _, h3, _⟩ := outer_ev l hl ho l.length 0 (List.replicate 100 0) (by simp) (by omega)
  exact ⟨R, h1, fun a b h h2 => h3 a b (by omega) h h2⟩
/-- Both answer alike; the answer is no long one. -/
theorem MatchSingles_same (l : List IY) (hl : (l.length : Int) ≤ 140737488351232) (hw : ∀ x ∈ l, -32768 ≤ x.f1 ∧ x.f1 ≤ 32767) :
    ∃ r : List IP × Int × Int, Ev (fun k => spec_MatchSingles.f k l) r ∧ Ev (fun k => impl_MatchSingles.f k l) r ∧ r.1.length ≤ 10 := by
  unfold spec_MatchSingles.f impl_MatchSingles.f
  simp only [impl_yCode l true hl, Option.bind_some]
  by_cases hc : yCode l true = 0
  · obtain ⟨hv, _, hlen⟩ := yCode_zero hc
    have ho : OkT l := by
      intro x hx
      have h1 := hw x hx
      have h2 := hv x hx
      unfold vY at h2
      have z := (of_decide_eq_true h2).2.1
      rw [wr (n := x.f1) (by omega) (by omega)] at z
      exact z
    by_cases hodd : l.length % 2 = 1
    · refine ⟨([], 0, 4), Ev.bind (spec_yCode l true hl) ?_, ?_, by simp⟩
      · have c1 : yCode l true = 0 ∧ l.length % 2 = 1 := ⟨hc, hodd⟩
        simp only [if_pos c1]
        exact Ev.now _
      · simp only [if_pos hc, if_pos hodd]; exact Ev.now _
    · obtain ⟨R, hR1, hR2⟩ := tab_ev l hlen ho
      obtain ⟨B, m, s, i, hm, hB⟩ := match_go l hlen ho R hR2 (l.length / 2) (List.range l.length) [] 0 [] (-1) 0 false (by simp; omega) (by simp) (by omega) List.pairwise_lt_range (by simp) (by simp) (by simp) (by simp) (.inr ⟨rfl, rfl⟩)
      refine ⟨(B, m, 0), Ev.bind (spec_yCode l true hl) ?_, ?_, hB⟩
      · have c1 : ¬ (yCode l true = 0 ∧ l.length % 2 = 1) := fun z => hodd z.2
        simp only [if_neg c1, if_pos hc, if_pos hlen]
        exact Ev.bind hR1 (Ev.bind s (Ev.now _))
      · have h20 : l.length ≤ 20 := by omega
        simp only [if_pos hc, if_neg hodd, if_pos h20]
        exact Ev.bind (members0_ev (by omega)) (Ev.bind i (Ev.now _))
  · refine ⟨([], 0, yCode l true), Ev.bind (spec_yCode l true hl) ?_, ?_, by simp⟩
    · have c1 : ¬ (yCode l true = 0 ∧ l.length % 2 = 1) := fun z => hc z.1
      simp only [if_neg c1, if_neg hc]; exact Ev.now _
    · simp only [if_neg hc]; exact Ev.now _
theorem rd_setN (l : List Int) (x : Int) (i j : Nat) (h : i < l.length) : rd (l.set i x) (j : Int) = if j = i then x else rd l (j : Int) := by
  unfold rd
  rw [Int.toNat_natCast, List.getD_eq_getElem?_getD, List.getElem?_set, List.getD_eq_getElem?_getD]
  by_cases e : i = j
  · subst e; simp [h]
  · rw [if_neg e, if_neg (fun z => e z.symm)]
theorem max_go (t : List Int) : ∀ m : Int, m ≤ slices_Max_int64_int64.go m t ∧ (∀ y ∈ t, y ≤ slices_Max_int64_int64.go m t) ∧ (slices_Max_int64_int64.go m t = m ∨ slices_Max_int64_int64.go m t ∈ t) := by
  induction t with
  | nil => intro m; simp [slices_Max_int64_int64.go]
  | cons x t ih =>
    intro m
    obtain ⟨h1, h2, h3⟩ := ih (mx m x)
    have hx : m ≤ mx m x ∧ x ≤ mx m x ∧ (mx m x = m ∨ mx m x = x) := by unfold mx; split <;> omega
    simp only [slices_Max_int64_int64.go, List.mem_cons]
    refine ⟨by omega, ?_, ?_⟩
    · rintro y (rfl | hy)
      · omega
      · exact h2 y hy
    · rcases h3 with h3 | h3
      · rcases hx.2.2 with e | e
        · left; omega
        · right; left; omega
      · right; right; exact h3
theorem max_spec {L : List Int} {r : Int} (h : slices_Max_int64_int64.f L = some r) : r ∈ L ∧ ∀ y ∈ L, y ≤ r := by
  cases L with
  | nil => simp [slices_Max_int64_int64.f] at h
  | cons x t =>
    simp only [slices_Max_int64_int64.f, Option.some.injEq] at h
    subst h
    obtain ⟨h1, h2, h3⟩ := max_go t x
    refine ⟨?_, ?_⟩
    · rcases h3 with e | e
      · rw [e]; exact List.mem_cons_self ..
      · exact List.mem_cons_of_mem _ e
    · intro y hy
      rcases List.mem_cons.1 hy with rfl | hy
      · exact h1
      · exact h2 y hy
theorem max_of {L : List Int} {r : Int} (hr : r ∈ L) (hb : ∀ y ∈ L, y ≤ r) : slices_Max_int64_int64.f L = some r := by
  cases L with
  | nil => simp at hr
  | cons x t =>
    obtain ⟨q, hq⟩ : ∃ q, slices_Max_int64_int64.f (x :: t) = some q := ⟨_, rfl⟩
    obtain ⟨a, b⟩ := max_spec hq
    have := hb q a
    have := b r hr
    rw [hq]; congr 1; omega
theorem max_set {L : List Int} {mo v : Int} (h : slices_Max_int64_int64.f L = some mo) (x : Nat) (hx : x < L.length) (hv : rd L (x : Int) ≤ v) : slices_Max_int64_int64.f (L.set x v) = some (if mo > v then mo else v) := by
  obtain ⟨h1, h2⟩ := max_spec h
  refine max_of ?_ ?_
  · split
    · rename_i hgt
      obtain ⟨j, hj, e⟩ := List.mem_iff_getElem.1 h1
      refine List.mem_iff_getElem.2 ⟨j, by simpa using hj, ?_⟩
      rw [List.getElem_set]
      rw [if_neg ?_]
      · exact e
      · intro e2
        subst e2
        rw [rd_lt hx] at hv
        omega
    · exact List.mem_iff_getElem.2 ⟨x, by simpa using hx, by simp⟩
  · intro y hy
    rcases List.mem_or_eq_of_mem_set hy with hy | hy
    · have := h2 y hy
      split <;> omega
    · subst hy; split <;> omega
/-- Where both searches stand. -/
structure EI (l : List IY) (p : Nat) (N S O L : List Int) (u : Nat) (mo : Int) : Prop where
  hS : S.length = 6
  hL : L.length = p
  hO : O.length = l.length
  hN : O.take N.length = N
  hu : u ≤ p
  hz : ∀ j : Nat, j < p → rd S (j : Int) = rd L (j : Int) ∧ 0 ≤ rd L (j : Int) ∧ rd L (j : Int) ≤ 5000 * N.length ∧ (rd L (j : Int) = 0 ↔ u ≤ j)
  hm : slices_Max_int64_int64.f L = some mo
def ES (l : List IY) (B : List Int) (m mi : Int) (fd : Bool) : Prop := (fd = true → mi = m ∧ 0 ≤ m ∧ B.length = l.length) ∧ (fd = false → mi = -1)
theorem EI.next {l : List IY} {p : Nat} {N S O L : List Int} {u : Nat} {mo : Int} (h : EI l p N S O L u mo) (hp : 1 ≤ p ∧ p ≤ 6) (hl : l.length ≤ 10) (x : Nat) (hx : x < p) (hxu : x ≤ u) (hn : N.length < l.length) (f : Int) (hf : 1 ≤ f ∧ f ≤ 5000) :
    EI l p (N ++ [(x : Int)]) (S.set x (rd S (x : Int) + f)) (O.set N.length (x : Int)) (L.set x (rd L (x : Int) + f)) (if u < x + 1 then x + 1 else u) (if mo > rd S (x : Int) + f then mo else rd S (x : Int) + f) := by
  have hxL : x < L.length := by rw [h.hL]; exact hx
  have hxS : x < S.length := by rw [h.hS]; omega
  obtain ⟨z1, z2, z3, z4⟩ := h.hz x hx
  refine ⟨by simp [h.hS], by simp [h.hL], by simp [h.hO], ?_, ?_, ?_, ?_⟩
  · rw [List.length_append, List.length_singleton, List.take_succ_eq_append_getElem (by simp [h.hO]; exact hn), List.take_set_of_le (Nat.le_refl _), h.hN]
    simp
  · have := h.hu; split <;> omega
  · intro j hj
    obtain ⟨y1, y2, y3, y4⟩ := h.hz j hj
    rw [rd_setN _ _ _ _ hxS, rd_setN _ _ _ _ hxL, List.length_append, List.length_singleton]
    by_cases e : j = x
    · subst e
      simp only [if_true]
      refine ⟨by omega, by omega, by omega, ⟨fun z => by omega, fun z => ?_⟩⟩
      exfalso; split at z <;> omega
    · simp only [if_neg e]
      refine ⟨y1, y2, by omega, ?_⟩
      rw [y4]; split <;> omega
  · rw [z1]; exact max_set h.hm x hxL (by omega)
theorem mxN (u x : Nat) : mx (u : Int) ((x + 1 : Nat) : Int) = ((if u < x + 1 then x + 1 else u : Nat) : Int) := by
  unfold mx
  by_cases h : u < x + 1
  · rw [if_pos (by omega), if_pos h]
  · rw [if_neg (by omega), if_neg h]
theorem l00MaxF (a b : Int) : spec_l00Max.f a b = some (if a > b then a else b) := by
  unfold spec_l00Max.f
  by_cases h : a > b
  · rw [if_pos h, if_pos h]
  · rw [if_neg h, if_neg h]
theorem bdq (u p : Nat) (h : u ≤ p) (hp : p ≤ 6) : mn (wrap64 ((u : Int) + 1)) (p : Int) = (if p < u + 1 then (p : Int) else ((u + 1 : Nat) : Int)) := by
  rw [wr (n := (u : Int) + 1) (by omega) (by omega)]
  unfold mn
  by_cases c : p < u + 1
  · rw [if_pos c, if_pos (by omega)]
  · rw [if_neg c, if_neg (by omega)]; omega
theorem bdx {p u x : Nat} (h : x < p) (h2 : x ≤ u) : (x : Int) < (if p < u + 1 then (p : Int) else ((u + 1 : Nat) : Int)) := by
  by_cases c : p < u + 1
  · rw [if_pos c]; omega
  · rw [if_neg c]; omega
theorem bdn {p u x : Nat} (h : x = p ∨ u < x) : ¬ (x : Int) < (if p < u + 1 then (p : Int) else ((u + 1 : Nat) : Int)) := by
  by_cases c : p < u + 1
  · rw [if_pos c]; omega
  · rw [if_neg c]; omega
theorem put_l0 (l : List IY) (p : Int) (k : Nat) (i u bd x : Int) (O L B : List Int) (m : Int) (h1 : x < bd) (h2 : 0 ≤ i ∧ i < (l.length : Int) ∧ i < (O.length : Int) ∧ 0 ≤ x ∧ x < (L.length : Int)) :
    impl_EvenPlies_1.l0 l p (k + 1) i u bd x O L B m = (impl_EvenPlies_1.f l p k (wrap64 (i + 1)) (mx u (wrap64 (x + 1))) (O.set i.toNat x) (L.set x.toNat (wrap64 (rd L x + wrap64 (rd_T33 l i).f0))) B m).bind fun r => if x < (r.2.1.length : Int) then impl_EvenPlies_1.l0 l p k i u bd (wrap64 (x + 1)) r.1 (r.2.1.set x.toNat (wrap64 (rd r.2.1 x - wrap64 (rd_T33 l i).f0))) r.2.2.1 r.2.2.2 else none := by
  rw [impl_EvenPlies_1.l0, if_pos h1, if_pos h2]
theorem from_l0 (l : List IY) (p : Int) (k : Nat) (N S : List Int) (mo x : Int) (B : List Int) (m : Int) (fd : Bool) (h1 : x < p) (h2 : 0 ≤ x ∧ x < 6 ∧ N.length < l.length ∧ N.length ≤ 1048576) :
    spec_l03Even_from.l0 l p (k + 1) N S mo x B m fd = (spec_l00Max.f mo (wrap64 (rd S x + wrap64 (rd_T33 l (N.length : Int)).f0))).bind fun mo2 => (spec_l03Even_from.f l p k (N ++ [x]) (S.set x.toNat (wrap64 (rd S x + wrap64 (rd_T33 l (N.length : Int)).f0))) mo2 B m fd).bind fun r => if rd S x = 0 then some r else spec_l03Even_from.l0 l p k N S mo (wrap64 (x + 1)) r.1 r.2.1 r.2.2 := by
  rw [spec_l03Even_from.l0, if_pos h1, if_pos h2]
set_option maxHeartbeats 4000000 in
theorem even_go (l : List IY) (p : Nat) (hp : 1 ≤ p ∧ p ≤ 6) (hl : l.length ≤ 10) (hv : ∀ x ∈ l, 1 ≤ x.f0 ∧ x.f0 ≤ 5000) : ∀ (d : Nat) (N S O L : List Int) (u : Nat) (mo : Int) (B : List Int) (m mi : Int) (fd : Bool), N.length + d = l.length → EI l p N S O L u mo → ES l B m mi fd →
    ∃ B' m' O', Ev (fun k => spec_l03Even_from.f l (p : Int) k N S mo B m fd) (B', m', true) ∧ Ev (fun k => impl_EvenPlies_1.f l (p : Int) k (N.length : Int) (u : Int) O L B mi) (O', L, B', m') ∧ O'.length = l.length ∧ O'.take N.length = N ∧ 0 ≤ m' ∧ B'.length = l.length := by
  intro d
  induction d with
  | zero =>
    intro N S O L u mo B m mi fd hd hI hS
    by_cases hg : fd = true ∧ mo ≥ m
    · obtain ⟨rfl, hg2⟩ := hg
      obtain ⟨rfl, q1, q2⟩ := hS.1 rfl
      refine ⟨B, mi, O, Ev.step (f := fun _ => some (B, mi, true)) (fun k => by rw [spec_l03Even_from.f, if_pos ⟨rfl, hg2⟩]) (Ev.now _), Ev.step (f := fun _ => some (O, L, B, mi)) (fun k => by simp only [impl_EvenPlies_1.f, hI.hm, Option.bind_some]; rw [if_pos ⟨q1, hg2⟩]) (Ev.now _), hI.hO, hI.hN, q1, q2⟩
    · have hg' : ¬ (mi ≥ 0 ∧ mo ≥ mi) := by
        rintro ⟨a, b⟩
        cases fd with
        | true => obtain ⟨rfl, _, _⟩ := hS.1 rfl; exact hg ⟨rfl, b⟩
        | false => have := hS.2 rfl; omega
      have hN : O = N := by rw [← hI.hN, show N.length = O.length by rw [hI.hO]; omega, List.take_length]
      have h0 : 0 ≤ mo := by
        obtain ⟨j, hj, e⟩ := List.mem_iff_getElem.1 (max_spec hI.hm).1
        have := (hI.hz j (by rw [← hI.hL]; exact hj)).2.1
        rw [rd_lt hj] at this
        omega
      refine ⟨N, mo, O, Ev.step (f := fun _ => some (N, mo, true)) (fun k => ?_) (Ev.now _), Ev.step (f := fun _ => some (O, L, N, mo)) (fun k => ?_) (Ev.now _), hI.hO, hI.hN, h0, by omega⟩
      · simp only [spec_l03Even_from.f]; rw [if_neg hg, if_pos (by omega), if_pos (by omega)]
      · have hd2 : (N.length : Int) = (l.length : Int) := by omega
        simp only [impl_EvenPlies_1.f, hI.hm, Option.bind_some]; rw [if_neg hg', if_pos hd2]
        simp only [slices_Clone_int64_int64.f]
        rw [if_pos (by have := hI.hO; omega), Option.bind_some, hN]
  | succ d ihd =>
    have loop : ∀ (N S L : List Int) (u : Nat) (mo : Int), N.length + (d + 1) = l.length → ∀ (e x : Nat) (O B : List Int) (m mi : Int) (fd : Bool), x + e = p → x ≤ u → (0 < x → fd = true) → EI l p N S O L u mo → ES l B m mi fd →
        ∃ B' m' O', Ev (fun k => spec_l03Even_from.l0 l (p : Int) k N S mo (x : Int) B m fd) (B', m', true) ∧ Ev (fun k => impl_EvenPlies_1.l0 l (p : Int) k (N.length : Int) (u : Int) (if p < u + 1 then (p : Int) else ((u + 1 : Nat) : Int)) (x : Int) O L B mi) (O', L, B', m') ∧ O'.length = l.length ∧ O'.take N.length = N ∧ 0 ≤ m' ∧ B'.length = l.length := by
      intro N S L u mo hd e
      induction e with
      | zero =>
        intro x O B m mi fd hx hxu hf hI hS
        have hfd := hf (by omega)
        subst hfd
        obtain ⟨rfl, q1, q2⟩ := hS.1 rfl
        refine ⟨B, mi, O, Ev.step (f := fun _ => some (B, mi, true)) (fun k => ?_) (Ev.now _), Ev.step (f := fun _ => some (O, L, B, mi)) (fun k => ?_) (Ev.now _), hI.hO, hI.hN, q1, q2⟩
        · simp only [spec_l03Even_from.l0]; rw [if_neg (by omega)]
        · simp only [impl_EvenPlies_1.l0]; rw [if_neg (bdn (by omega))]
      | succ e ihe =>
        intro x O B m mi fd hx hxu hf hI hS
        have hxp : x < p := by omega
        have hn : N.length < l.length := by omega
        have hxS : x < S.length := by rw [hI.hS]; omega
        have hxL : x < L.length := by rw [hI.hL]; exact hxp
        obtain ⟨z1, z2, z3, z4⟩ := hI.hz x hxp
        have hw := hv l[N.length] (List.getElem_mem hn)
        have hlen : (N.length : Int) ≤ 10 := by omega
        obtain ⟨B1, m1, O1, s1, i1, o1, o2, o3, o4⟩ := ihd _ _ _ _ _ _ B m mi fd (by simp; omega) (hI.next hp hl x hxp hxu hn l[N.length].f0 hw) hS
        have wv : wrap64 (rd S (x : Int) + wrap64 (rd_T33 l (N.length : Int)).f0) = rd S (x : Int) + l[N.length].f0 := by
          rw [rdIY hn, wr (n := l[N.length].f0) (by omega) (by omega), wr (by omega) (by omega)]
        have wvL : wrap64 (rd L (x : Int) + wrap64 (rd_T33 l (N.length : Int)).f0) = rd L (x : Int) + l[N.length].f0 := by
          rw [rdIY hn, wr (n := l[N.length].f0) (by omega) (by omega), wr (by omega) (by omega)]
        have wx : wrap64 ((x : Int) + 1) = ((x + 1 : Nat) : Int) := by rw [wr (by omega) (by omega)]; omega
        have wn : wrap64 ((N.length : Int) + 1) = ((N ++ [(x : Int)]).length : Int) := by rw [wr (by omega) (by omega)]; simp
        have hO1 : O1.take N.length = N := by
          have := congrArg (List.take N.length) o2
          rw [List.take_take, List.length_append, Nat.min_eq_left (by omega)] at this
          simpa using this
        have hrest : (L.set x (rd L (x : Int) + l[N.length].f0)).set x (wrap64 (rd (L.set x (rd L (x : Int) + l[N.length].f0)) (x : Int) - wrap64 (rd_T33 l (N.length : Int)).f0)) = L := by
          rw [rd_setN _ _ _ _ hxL, if_pos rfl, rdIY hn, wr (n := l[N.length].f0) (by omega) (by omega), wr (by omega) (by omega), List.set_set]
          have : rd L (x : Int) + l[N.length].f0 - l[N.length].f0 = L[x] := by rw [rd_lt hxL]; omega
          rw [this, List.set_getElem_self]
        have hI1 : EI l p N S O1 L u mo := ⟨hI.hS, hI.hL, o1, hO1, hI.hu, hI.hz, hI.hm⟩
        have hS1 : ES l B1 m1 m1 true := ⟨fun _ => ⟨rfl, o3, o4⟩, fun z => by cases z⟩
        have hg2 : 0 ≤ (N.length : Int) ∧ (N.length : Int) < (l.length : Int) ∧ (N.length : Int) < (O.length : Int) ∧ 0 ≤ (x : Int) ∧ (x : Int) < (L.length : Int) := ⟨Int.natCast_nonneg _, Int.ofNat_lt.2 hn, Int.ofNat_lt.2 (hI.hO ▸ hn), Int.natCast_nonneg _, Int.ofNat_lt.2 hxL⟩
        have istep : ∀ k, impl_EvenPlies_1.l0 l (p : Int) (k + 1) (N.length : Int) (u : Int) (if p < u + 1 then (p : Int) else ((u + 1 : Nat) : Int)) (x : Int) O L B mi = (impl_EvenPlies_1.f l (p : Int) k ((N ++ [(x : Int)]).length : Int) ((if u < x + 1 then x + 1 else u : Nat) : Int) (O.set N.length (x : Int)) (L.set x (rd L (x : Int) + l[N.length].f0)) B mi).bind fun r =>
            if (x : Int) < (r.2.1.length : Int) then impl_EvenPlies_1.l0 l (p : Int) k (N.length : Int) (u : Int) (if p < u + 1 then (p : Int) else ((u + 1 : Nat) : Int)) ((x + 1 : Nat) : Int) r.1 (r.2.1.set x (wrap64 (rd r.2.1 (x : Int) - wrap64 (rd_T33 l (N.length : Int)).f0))) r.2.2.1 r.2.2.2 else none := by
          intro k
          rw [put_l0 l (p : Int) k (N.length : Int) (u : Int) _ (x : Int) O L B mi (bdx hxp hxu) hg2, wvL, wx, wn, mxN u x, Int.toNat_natCast, Int.toNat_natCast]
        have sstep : ∀ k, spec_l03Even_from.l0 l (p : Int) (k + 1) N S mo (x : Int) B m fd = (spec_l03Even_from.f l (p : Int) k (N ++ [(x : Int)]) (S.set x (rd S (x : Int) + l[N.length].f0)) (if mo > rd S (x : Int) + l[N.length].f0 then mo else rd S (x : Int) + l[N.length].f0) B m fd).bind fun r =>
            if rd S (x : Int) = 0 then some r else spec_l03Even_from.l0 l (p : Int) k N S mo ((x + 1 : Nat) : Int) r.1 r.2.1 r.2.2 := by
          intro k
          rw [from_l0 l (p : Int) k N S mo (x : Int) B m fd (Int.ofNat_lt.2 hxp) ⟨Int.natCast_nonneg _, Int.ofNat_lt.2 (Nat.lt_of_lt_of_le hxp hp.2), hn, Nat.le_trans (Nat.le_of_lt hn) (Nat.le_trans hl (by decide))⟩, wv, l00MaxF, Option.bind_some, wx, Int.toNat_natCast]
        have hlx : (x : Int) < ((L.set x (rd L (x : Int) + l[N.length].f0)).length : Int) := by rw [List.length_set]; exact Int.ofNat_lt.2 hxL
        by_cases hzero : rd S (x : Int) = 0
        · have hux : u = x := by exact Nat.le_antisymm (z4.1 (z1.symm.trans hzero)) hxu
          refine ⟨B1, m1, O1, Ev.step sstep (Ev.bind s1 ?_), Ev.step istep (Ev.bind i1 ?_), o1, hO1, o3, o4⟩
          · simp only [if_pos hzero]; exact Ev.now _
          · simp only [if_pos hlx]
            rw [hrest]
            refine Ev.step (f := fun _ => some (O1, L, B1, m1)) (fun k => ?_) (Ev.now _)
            simp only [impl_EvenPlies_1.l0]; rw [if_neg (bdn (Or.inr (hux ▸ Nat.lt_succ_self x)))]
        · have hxu2 : x + 1 ≤ u := by
            rcases Nat.lt_or_ge x u with h | h
            · exact h
            · exact absurd (z1.trans (z4.2 h)) hzero
          obtain ⟨B2, m2, O2, s2, i2, p1, p2, p3, p4⟩ := ihe (x + 1) O1 B1 m1 m1 true ((Nat.succ_add_eq_add_succ x e).trans hx) hxu2 (fun _ => rfl) hI1 hS1
          refine ⟨B2, m2, O2, Ev.step sstep (Ev.bind s1 ?_), Ev.step istep (Ev.bind i1 ?_), p1, p2, p3, p4⟩
          · simp only [if_neg hzero]; exact s2
          · simp only [if_pos hlx]
            rw [hrest]; exact i2
    intro N S O L u mo B m mi fd hd hI hS
    by_cases hg : fd = true ∧ mo ≥ m
    · obtain ⟨rfl, hg2⟩ := hg
      obtain ⟨rfl, q1, q2⟩ := hS.1 rfl
      refine ⟨B, mi, O, Ev.step (f := fun _ => some (B, mi, true)) (fun k => by rw [spec_l03Even_from.f, if_pos ⟨rfl, hg2⟩]) (Ev.now _), Ev.step (f := fun _ => some (O, L, B, mi)) (fun k => by simp only [impl_EvenPlies_1.f, hI.hm, Option.bind_some]; rw [if_pos ⟨q1, hg2⟩]) (Ev.now _), hI.hO, hI.hN, q1, q2⟩
    · have hg' : ¬ (mi ≥ 0 ∧ mo ≥ mi) := by
        rintro ⟨a, b⟩
        cases fd with
        | true => obtain ⟨rfl, _, _⟩ := hS.1 rfl; exact hg ⟨rfl, b⟩
        | false => have := hS.2 rfl; omega
      obtain ⟨B', m', O', s, i, r⟩ := loop N S L u mo hd p 0 O B m mi fd (by omega) (by omega) (fun z => absurd z (by omega)) hI hS
      refine ⟨B', m', O', Ev.step (fun k => ?_) s, Ev.step (fun k => ?_) i, r⟩
      · simp only [spec_l03Even_from.f]; rw [if_neg hg, if_neg (by omega)]; rfl
      · simp only [impl_EvenPlies_1.f, hI.hm, Option.bind_some]; rw [if_neg hg', if_neg (by have := hd; omega), bdq u p hI.hu hp.2]; rfl
theorem and255 (x : Int) : 0 ≤ Go.bits .and .u64 x 255 ∧ Go.bits .and .u64 x 255 ≤ 255 := by
  have h : (BitVec.ofInt 64 x &&& BitVec.ofInt 64 255).toNat ≤ 255 := by
    rw [BitVec.toNat_and]
    exact Nat.le_trans Nat.and_le_right (by decide)
  show 0 ≤ IntKind.u64.wrap (((BitVec.ofInt 64 x &&& BitVec.ofInt 64 255).toNat : Nat) : Int) ∧ IntKind.u64.wrap (((BitVec.ofInt 64 x &&& BitVec.ofInt 64 255).toNat : Nat) : Int) ≤ 255
  generalize (BitVec.ofInt 64 x &&& BitVec.ofInt 64 255).toNat = n at *
  simp only [IntKind.wrap, IntKind.bits, IntKind.signed]
  simp
  omega
/-- A row of bytes. -/
def bytesL (l : List Int) : Prop := (l.length : Int) ≤ 140737488351232 ∧ ∀ x ∈ l, 0 ≤ x ∧ x ≤ 255
theorem next_f (s : List Int) (hs : bytesL s) (p d : Int) (h0 : 0 ≤ p) (h1 : p ≤ 4611686018427387904) : ∃ v d', spec_l00Src_next.f s p d = some (v, p + 1, d') ∧ 0 ≤ v ∧ v ≤ 255 := by
  have wp : wrap64 (p + 1) = p + 1 := wr (by omega) (by omega)
  have wa : ∀ x, wrap64 (Go.bits .and .u64 x 255) = Go.bits .and .u64 x 255 := fun x => by have := and255 x; exact wr (by omega) (by omega)
  unfold spec_l00Src_next.f
  rw [wp]
  by_cases hl : p < (s.length : Int)
  · have hp : p.toNat < s.length := by omega
    have e : rd s p = s[p.toNat] := by unfold rd; simp [List.getD, hp]
    have hb := hs.2 _ (List.getElem_mem hp)
    have w : wrap64 (rd s p) = rd s p := wr (by omega) (by omega)
    rw [if_pos hl, if_pos h0]
    by_cases h2 : p + 1 ≤ (s.length : Int)
    · rw [if_pos h2, w]; exact ⟨_, _, rfl, by omega, by omega⟩
    · omega
  · rw [if_neg hl]
    have h2 : ¬ p + 1 ≤ (s.length : Int) := by omega
    rw [if_neg h2, wa]
    exact ⟨_, _, rfl, (and255 _).1, (and255 _).2⟩
theorem pick_f (s : List Int) (hs : bytesL s) (p d n : Int) (h0 : 0 ≤ p) (h1 : p ≤ 4611686018427387903) (n1 : 1 ≤ n) : ∃ v p' d', spec_l00Src_pick.f s p d n = some (v, p', d') ∧ 0 ≤ v ∧ v < n ∧ p ≤ p' ∧ p' ≤ p + 2 := by
  unfold spec_l00Src_pick.f
  by_cases hn : n ≤ 1
  · rw [if_pos hn]; exact ⟨0, p, d, rfl, by omega, by omega, by omega, by omega⟩
  · rw [if_neg hn]
    obtain ⟨v, d', e, a, b⟩ := next_f s hs p d h0 (by omega)
    rw [e]
    simp only [Option.bind_some]
    by_cases h2 : n > 200
    · rw [if_pos h2]
      obtain ⟨v2, d2, e2, a2, b2⟩ := next_f s hs (p + 1) d' (by omega) (by omega)
      rw [e2]
      simp only [Option.bind_some]
      rw [if_neg (by omega), wr (n := v * 256) (by omega) (by omega), wr (n := v * 256 + v2) (by omega) (by omega)]
      have t0 : Int.tmod (v * 256 + v2) n = (v * 256 + v2) % n := Int.tmod_eq_emod_of_nonneg (by omega)
      exact ⟨_, _, _, rfl, by rw [t0]; exact Int.emod_nonneg _ (by omega), by rw [t0]; exact Int.emod_lt_of_pos _ (by omega), by omega, by omega⟩
    · rw [if_neg h2, if_neg (by omega)]
      have t0 : Int.tmod v n = v % n := Int.tmod_eq_emod_of_nonneg (by omega)
      exact ⟨_, _, _, rfl, by rw [t0]; exact Int.emod_nonneg _ (by omega), by rw [t0]; exact Int.emod_lt_of_pos _ (by omega), by omega, by omega⟩
theorem rest_loop (l : List IY) (t : Int) (hl : (l.length : Int) ≤ 140737488351232) (d : Nat) : ∀ (i : Nat) (acc : Int), i + d = l.length →
    Same (fun k => spec_l03Rest.l0 k l t acc (i : Int)) (fun k => impl_rest.l0 k t acc l (l.length : Int) (i : Int)) := by
  induction d with
  | zero =>
    intro i acc hi
    refine Same.step (f' := fun _ => some acc) (g' := fun _ => some acc) (fun k => ?_) (fun k => ?_) (Same.now _)
    · simp only [spec_l03Rest.l0]; rw [if_neg (by omega)]
    · simp only [impl_rest.l0]; rw [if_neg (by omega)]
  | succ d ih =>
    intro i acc hi
    have hil : i < l.length := by omega
    refine Same.step (fun k => ?_) (fun k => ?_) (ih (i + 1) (wrap64 (acc + mx (wrap64 (wrap64 l[i].f1 + t)) (wrap64 (-(wrap64 (wrap64 l[i].f1 + t)))))) (by omega))
    · simp only [spec_l03Rest.l0, rdIY hil, size_same, impl_size.f, Option.bind_some]
      rw [if_pos (by omega), if_pos (by omega), wr (n := (i : Int) + 1) (by omega) (by omega)]; rfl
    · simp only [impl_rest.l0, rdIY hil, impl_size.f, Option.bind_some]
      rw [if_pos (by omega), if_pos (by omega), if_pos (by omega), wr (n := (i : Int) + 1) (by omega) (by omega)]; rfl
theorem rest_fun (l : List IY) (hl : (l.length : Int) ≤ 140737488351232) : ∃ R : Int → Int, ∀ t, Ev (fun k => spec_l03Rest.f k l t) (R t) ∧ Ev (fun k => impl_rest.f k l t) (R t) := by
  have h : ∀ t, ∃ r, Ev (fun k => spec_l03Rest.f k l t) r ∧ Ev (fun k => impl_rest.f k l t) r := fun t => rest_loop l t hl l.length 0 0 (by omega)
  exact ⟨fun t => Classical.choose (h t), fun t => Classical.choose_spec (h t)⟩
theorem bal_loop (l : List IY) (R : Int → Int) (hR : ∀ t, Ev (fun k => spec_l03Rest.f k l t) (R t) ∧ Ev (fun k => impl_rest.f k l t) (R t)) (d : Nat) : ∀ (n b : Int), 1 ≤ n → n + d = 2001 →
    ∃ c, Ev (fun k => spec_l03Balance.l0 k l b (R b) n) (c, R c) ∧ Ev (fun k => impl_BalanceTurns.l0 k l b n) (c, R c, 0) := by
  induction d with
  | zero =>
    intro n b h1 hn
    refine ⟨b, Ev.step (f := fun _ => some (b, R b)) (fun k => ?_) (Ev.now _), Ev.step (fun k => by simp only [impl_BalanceTurns.l0]; rw [if_neg (by omega)]) (Ev.bind (hR b).2 (Ev.now _))⟩
    simp only [spec_l03Balance.l0]; rw [if_neg (by omega)]
  | succ d ih =>
    intro n b h1 hn
    have w1 : wrap64 (-n) = -n := wr (by omega) (by omega)
    have w2 : wrap64 (n + 1) = n + 1 := wr (by omega) (by omega)
    have w3 : wrap64 (0 + 1) = 1 := wr (by omega) (by omega)
    have w4 : wrap64 (1 + 1) = 2 := wr (by omega) (by omega)
    have r0 : rd [n, -n] 0 = n := rfl
    have r1 : rd [n, -n] 1 = -n := rfl
    have hn2 : n ≤ 2000 := by omega
    -- what both come to behind the round
    have key : ∀ b1, (if R n < R b then n else b) = b1 → ∃ c, Ev (fun k => (spec_l03Rest.f k l (-n)).bind fun t => (if t < R b1 then spec_l03Balance.l0 k l (-n) t (n + 1) else spec_l03Balance.l0 k l b1 (R b1) (n + 1))) (c, R c) ∧ Ev (fun k => impl_BalanceTurns.l1 k l b1 n [n, -n] 2 1) (c, R c, 0) := by
      intro b1 _
      by_cases h2 : R (-n) < R b1
      · obtain ⟨c, e1, e2⟩ := ih (n + 1) (-n) (by omega) (by omega)
        refine ⟨c, Ev.bind (hR (-n)).1 (by simp only [if_pos h2]; exact e1), Ev.step (fun k => by simp only [impl_BalanceTurns.l1, r1]; rw [if_pos (by omega), if_pos (by omega), if_pos (by simp)]) (Ev.bind (hR (-n)).2 (Ev.bind (hR b1).2 ?_))⟩
        simp only [if_pos h2, w4]
        exact Ev.step (fun k => by simp only [impl_BalanceTurns.l1, w2]; rw [if_neg (by omega)]) e2
      · obtain ⟨c, e1, e2⟩ := ih (n + 1) b1 (by omega) (by omega)
        refine ⟨c, Ev.bind (hR (-n)).1 (by simp only [if_neg h2]; exact e1), Ev.step (fun k => by simp only [impl_BalanceTurns.l1, r1]; rw [if_pos (by omega), if_pos (by omega), if_pos (by simp)]) (Ev.bind (hR (-n)).2 (Ev.bind (hR b1).2 ?_))⟩
        simp only [if_neg h2, w4]
        exact Ev.step (fun k => by simp only [impl_BalanceTurns.l1, w2]; rw [if_neg (by omega)]) e2
    obtain ⟨c, e1, e2⟩ := key _ rfl
    refine ⟨c, Ev.step (fun k => by simp only [spec_l03Balance.l0, w1, w2]; rw [if_pos hn2]) (Ev.bind (hR n).1 ?_), Ev.step (fun k => by simp only [impl_BalanceTurns.l0, w1, Option.bind_some, List.length_cons, List.length_nil]; rw [if_pos hn2]) ?_⟩
    · by_cases h : R n < R b
      · simp only [if_pos h] at e1 ⊢; exact e1
      · simp only [if_neg h] at e1 ⊢; exact e1
    · refine Ev.step (fun k => by simp only [impl_BalanceTurns.l1, r0]; rw [if_pos (by omega), if_pos (by omega), if_pos (by simp)]) (Ev.bind (hR n).2 (Ev.bind (hR b).2 ?_))
      by_cases h : R n < R b
      · simp only [if_pos h, w3] at e2 ⊢; exact e2
      · simp only [if_neg h, w3] at e2 ⊢; exact e2
theorem BalanceTurns_same (l : List IY) (hl : (l.length : Int) ≤ 140737488351232) : Same (fun k => spec_BalanceTurns.f k l) (fun k => impl_BalanceTurns.f k l) := by
  obtain ⟨R, hR⟩ := rest_fun l hl
  obtain ⟨c, e1, e2⟩ := bal_loop l R hR 2000 1 0 (by omega) (by omega)
  unfold spec_BalanceTurns.f impl_BalanceTurns.f spec_l03Balance.f
  simp only [impl_pCode l 0 hl, Option.bind_some]
  by_cases hc : pCode l 0 = 0
  · simp only [hc, if_true]
    exact ⟨(c, R c, 0), Ev.bind (spec_pCode l 0 hl) (by simp only [hc, if_true]; exact Ev.bind (Ev.bind (hR 0).1 e1) (Ev.now _)), e2⟩
  · simp only [if_neg hc]
    exact ⟨(0, 0, pCode l 0), Ev.bind (spec_pCode l 0 hl) (by simp only [if_neg hc]; exact Ev.now _), Ev.now _⟩
theorem PlyLong_same (l : List IY) (t : Int) (hl : (l.length : Int) ≤ 140737488351232) : Same (fun k => spec_PlyLong.f k l t) (fun k => impl_PlyLong.f k l t) := by
  unfold spec_PlyLong.f impl_PlyLong.f
  simp only [impl_pCode l t hl, Option.bind_some]
  by_cases hc : pCode l t = 0
  · obtain ⟨h1, h2, h3, h4⟩ := pCode_zero hc
    obtain ⟨r, e1, e2⟩ := plied_same l t h1 h3 h4
    simp only [hc, if_true]
    by_cases hr : r < 1
    · exact ⟨(0, 6), Ev.bind (spec_pCode l t hl) (by simp only [hc, if_true]; exact Ev.bind e1 (by simp only [if_pos hr]; exact Ev.now _)), Ev.bind e2 (by simp only [if_pos hr]; exact Ev.now _)⟩
    · exact ⟨(r, 0), Ev.bind (spec_pCode l t hl) (by simp only [hc, if_true]; exact Ev.bind e1 (by simp only [if_neg hr]; exact Ev.now _)), Ev.bind e2 (by simp only [if_neg hr]; exact Ev.now _)⟩
  · simp only [if_neg hc]
    exact ⟨(0, pCode l t), Ev.bind (spec_pCode l t hl) (by simp only [if_neg hc]; exact Ev.now _), Ev.now _⟩
def finP (o : Option (Int × Int × Int × Bool)) : Option (Int × Int × Int × Int) := o.bind fun bt => if bt.2.2.2 = true then some (bt.1, bt.2.1, bt.2.2.1, 0) else some (0, 0, 0, 4)
theorem finP_some (a b c : Int) : ∃ r, finP (impl_makeYarn.f a b c) = some r := by
  unfold impl_makeYarn.f
  simp only [within_f, Option.bind_some, if_dec]
  by_cases h1 : 1 ≤ a ∧ a ≤ 5000 <;> by_cases h2 : -2000 ≤ b ∧ b ≤ 2000 <;> by_cases h3 : 1 ≤ c ∧ c ≤ 2000 <;> simp [h1, h2, h3, finP]
theorem spec_ply_loop (l : List IY) (t x7 : Int) (hl : (l.length : Int) ≤ 140737488351232) (r : Int × Int × Int × Int) (hr : finP (spec_l03Make.f x7 t (wrap64 (sumG l))) = some r) (d : Nat) : ∀ (i : Nat) (c : Int), i + d = l.length → c + sumG (l.drop i) = sumG l →
    Ev (fun k => spec_PlyYarns.l0 k l t x7 (wrap64 c) (i : Int)) r := by
  induction d with
  | zero =>
    intro i c hi hc
    refine Ev.step (f := fun _ => some r) (fun k => ?_) (Ev.now _)
    rw [List.drop_eq_nil_of_le (by omega)] at hc
    have hc' : c = sumG l := by simpa [sumG] using hc
    simp only [spec_PlyYarns.l0]
    rw [if_neg (by omega), hc']
    exact hr
  | succ d ih =>
    intro i c hi hc
    have hil : i < l.length := by omega
    obtain ⟨_, _, s3⟩ := sum_cons l i hil
    refine Ev.step (fun k => ?_) (ih (i + 1) (c + l[i].f2) (by omega) (by omega))
    simp only [spec_PlyYarns.l0, rdIY hil]
    rw [if_pos (by omega), if_pos (by omega), wr (n := (i : Int) + 1) (by omega) (by omega), wsum, wadd]; rfl
theorem PlyYarns_same (l : List IY) (t : Int) (hl : (l.length : Int) ≤ 140737488351232) : Same (fun k => spec_PlyYarns.f k l t) (fun k => impl_PlyYarns.f k l t) := by
  unfold spec_PlyYarns.f impl_PlyYarns.f impl_PlyLong.f
  simp only [impl_pCode l t hl, Option.bind_some]
  by_cases hc : pCode l t = 0
  · obtain ⟨h1, h2, h3, h4⟩ := pCode_zero hc
    obtain ⟨r, e1, e2⟩ := plied_same l t h1 h3 h4
    simp only [hc, if_true]
    by_cases hr : r < 1
    · refine ⟨(0, 0, 0, 6), Ev.bind (spec_pCode l t hl) (by simp only [hc, if_true]; exact Ev.bind e1 (by simp only [if_pos hr]; exact Ev.now _)), Ev.bind (a := (0, 6)) (Ev.bind e2 (by simp only [if_pos hr]; exact Ev.now _)) ?_⟩
      simp only [show ¬ ((6 : Int) = 0) by omega, if_false]; exact Ev.now _
    · obtain ⟨q, hq⟩ := finP_some r t (wrap64 (sumG l))
      have hs := spec_ply_loop l t r hl q (by rw [make_same]; exact hq) l.length 0 0 (by omega) (by simp)
      have hs2 : Ev (fun k => spec_PlyYarns.l0 k l t r 0 0) q := by simpa [w00] using hs
      refine ⟨q, Ev.bind (spec_pCode l t hl) (by simp only [hc, if_true]; exact Ev.bind e1 (by simp only [if_neg hr]; exact hs2)), Ev.bind (a := (r, 0)) (Ev.bind e2 (by simp only [if_neg hr]; exact Ev.now _)) ?_⟩
      · simp only [if_true]
        refine Ev.bind (impl_sums_ev l hl) ?_
        exact ev_const hq
  · simp only [if_neg hc]
    refine ⟨(0, 0, 0, pCode l t), Ev.bind (spec_pCode l t hl) (by simp only [if_neg hc]; exact Ev.now _), ?_⟩
    simp only [Option.bind_some, if_neg hc]; exact Ev.now _
theorem wfp16 {a : Int} (h : (Lit.int .i16 a).wf = true) : -32768 ≤ a ∧ a ≤ 32767 := by
  simp only [Lit.wf, IntKind.min, IntKind.max, IntKind.signed, IntKind.bits, Bool.and_eq_true, decide_eq_true_eq, if_true] at h
  omega
theorem tmod_nat (m n : Nat) : Int.tmod (m : Int) (n : Int) = ((m % n : Nat) : Int) := by
  rw [Int.tmod_eq_emod_of_nonneg (by omega), Int.natCast_emod]
theorem common_ev (n : Nat) : ∀ m : Nat, Ev (fun k => spec_l01Common.l0 k (m : Int) (n : Int)) ((Nat.gcd n m : Nat) : Int) := by
  induction n using Nat.strongRecOn with
  | _ n ih =>
    intro m
    by_cases h : n = 0
    · subst h
      refine Ev.step (f := fun _ => some (m : Int)) (fun k => ?_) (ev_id (Ev.now _) (by simp))
      simp only [spec_l01Common.l0]; rw [if_neg (by omega)]
    · refine Ev.step (fun k => ?_) (ev_id (ih (m % n) (Nat.mod_lt _ (by omega)) n) (by rw [Nat.gcd_rec n m]))
      simp only [spec_l01Common.l0, tmod_nat]
      rw [if_pos (by omega), if_neg (by omega)]
theorem divisor_ev (n : Nat) : ∀ m : Nat, Ev (fun k => impl_divisor.l0 k (m : Int) (n : Int)) ((Nat.gcd n m : Nat) : Int) := by
  induction n using Nat.strongRecOn with
  | _ n ih =>
    intro m
    by_cases h : n = 0
    · subst h
      refine Ev.step (f := fun _ => some (m : Int)) (fun k => ?_) (ev_id (Ev.now _) (by simp))
      simp only [impl_divisor.l0]; rw [if_pos (by rfl)]
    · refine Ev.step (fun k => ?_) (ev_id (ih (m % n) (Nat.mod_lt _ (by omega)) n) (by rw [Nat.gcd_rec n m]))
      simp only [impl_divisor.l0, tmod_nat]
      rw [if_neg (by omega)]
/-- A fraction in its lowest terms. -/
def fr1 (L G : Nat) : Int := ((L / Nat.gcd G L : Nat) : Int)
def fr2 (L G : Nat) : Int := ((G / Nat.gcd G L : Nat) : Int)
theorem tdiv_nat (m n : Nat) : Int.tdiv (m : Int) (n : Int) = ((m / n : Nat) : Int) := by
  rw [Int.tdiv_eq_ediv_of_nonneg (by omega), Int.natCast_ediv]
theorem wrN (n : Nat) (h : n ≤ 5000) : wrap64 (n : Int) = (n : Int) := wr (by omega) (by omega)
theorem specFrac_ev (L G : Nat) (hL : 1 ≤ L ∧ L ≤ 5000) (hG : 1 ≤ G ∧ G ≤ 2000) : Ev (fun k => spec_l03Ratio.f k (L : Int) (G : Int)) (fr1 L G, fr2 L G) := by
  unfold spec_l03Ratio.f spec_l01Make.f spec_l00Max.f spec_l01Common.f
  have w : wrap64 (-(L : Int)) = -(L : Int) := wr (by omega) (by omega)
  have hm : (L : Int) > -(L : Int) := by omega
  have hg : 0 < Nat.gcd G L := Nat.gcd_pos_of_pos_left _ (by omega)
  have hne : ¬ ((Nat.gcd G L : Nat) : Int) = 0 := by omega
  have b1 : L / Nat.gcd G L ≤ L := Nat.div_le_self _ _
  have b2 : G / Nat.gcd G L ≤ G := Nat.div_le_self _ _
  simp only [w, if_pos hm, Option.bind_some]
  have e : Ev (fun k => (spec_l01Common.l0 k (L : Int) (G : Int)).bind fun t109 => if t109 = 0 then none else some (wrap64 (Int.tdiv (L : Int) t109), wrap64 (Int.tdiv (G : Int) t109))) (fr1 L G, fr2 L G) := by
    refine Ev.bind (common_ev G L) ?_
    simp only [if_neg hne, tdiv_nat]
    rw [wrN (L / Nat.gcd G L) (Nat.le_trans b1 hL.2), wrN (G / Nat.gcd G L) (Nat.le_trans b2 (Nat.le_trans hG.2 (by decide)))]
    exact Ev.now _
  exact Ev.bind e (Ev.now _)
theorem implFrac_ev (L G : Nat) (t : Int) (hL : 1 ≤ L ∧ L ≤ 5000) (hG : 1 ≤ G ∧ G ≤ 2000) : Ev (fun k => impl_Yarn_count.f k (L : Int) t (G : Int)) (fr1 L G, fr2 L G) := by
  unfold impl_Yarn_count.f impl_fraction.f impl_divisor.f impl_size.f
  have w : wrap64 (-(L : Int)) = -(L : Int) := wr (by omega) (by omega)
  have w2 : wrap64 (-(G : Int)) = -(G : Int) := wr (by omega) (by omega)
  have w3 : wrap64 (L : Int) = (L : Int) := wr (by omega) (by omega)
  have w4 : wrap64 (G : Int) = (G : Int) := wr (by omega) (by omega)
  have m1 : mx (L : Int) (-(L : Int)) = (L : Int) := by unfold mx; split <;> omega
  have m2 : mx (G : Int) (-(G : Int)) = (G : Int) := by unfold mx; split <;> omega
  have hn : ¬ (G : Int) < 0 := by omega
  have hg : 0 < Nat.gcd G L := Nat.gcd_pos_of_pos_left _ (by omega)
  have hne : ¬ ((Nat.gcd G L : Nat) : Int) = 0 := by omega
  have b1 : L / Nat.gcd G L ≤ L := Nat.div_le_self _ _
  have b2 : G / Nat.gcd G L ≤ G := Nat.div_le_self _ _
  simp only [w, w2, w3, w4, m1, m2, Option.bind_some, if_neg hn]
  have e : Ev (fun k => (impl_divisor.l0 k (L : Int) (G : Int)).bind fun t141 => if t141 = 0 then none else some (wrap64 (Int.tdiv (L : Int) t141), wrap64 (Int.tdiv (G : Int) t141))) (fr1 L G, fr2 L G) := by
    refine Ev.bind (divisor_ev G L) ?_
    simp only [if_neg hne, tdiv_nat]
    rw [wrN (L / Nat.gcd G L) (Nat.le_trans b1 hL.2), wrN (G / Nat.gcd G L) (Nat.le_trans b2 (Nat.le_trans hG.2 (by decide)))]
    exact Ev.now _
  exact Ev.bind e (Ev.now _)
theorem cross {L G A B : Nat} (hL : 1 ≤ L ∧ L ≤ 5000) (hG : 1 ≤ G ∧ G ≤ 2000) (hA : 1 ≤ A ∧ A ≤ 5000) (hB : 1 ≤ B ∧ B ≤ 2000) :
    (wrap64 (fr1 L G * fr2 A B) > wrap64 (fr1 A B * fr2 L G)) ↔ (wrap64 ((L : Int) * (B : Int)) > wrap64 ((A : Int) * (G : Int))) := by
  have g1 : 0 < Nat.gcd G L := Nat.gcd_pos_of_pos_left _ (by omega)
  have g2 : 0 < Nat.gcd B A := Nat.gcd_pos_of_pos_left _ (by omega)
  obtain ⟨x, hx⟩ := Nat.gcd_dvd_right G L
  obtain ⟨y, hy⟩ := Nat.gcd_dvd_left G L
  obtain ⟨u, hu⟩ := Nat.gcd_dvd_right B A
  obtain ⟨v, hv⟩ := Nat.gcd_dvd_left B A
  have f1 : fr1 L G = (x : Int) := by unfold fr1; congr 1; exact Nat.div_eq_of_eq_mul_right g1 hx
  have f2 : fr2 L G = (y : Int) := by unfold fr2; congr 1; exact Nat.div_eq_of_eq_mul_right g1 hy
  have f3 : fr1 A B = (u : Int) := by unfold fr1; congr 1; exact Nat.div_eq_of_eq_mul_right g2 hu
  have f4 : fr2 A B = (v : Int) := by unfold fr2; congr 1; exact Nat.div_eq_of_eq_mul_right g2 hv
  have bound : ∀ a b : Nat, a ≤ 5000 → b ≤ 5000 → wrap64 ((a : Int) * (b : Int)) = ((a * b : Nat) : Int) := by
    intro a b ha hb
    have : a * b ≤ 5000 * 5000 := Nat.mul_le_mul ha hb
    rw [← Int.natCast_mul]
    exact wr (by omega) (by omega)
  have le : ∀ {p q r : Nat}, 0 < p → r = p * q → r ≤ 5000 → q ≤ 5000 := by
    intro p q r h e b
    have : q ≤ p * q := Nat.le_mul_of_pos_left q h
    omega
  have bx := le g1 hx (by omega)
  have by_ := le g1 hy (by omega)
  have bu := le g2 hu (by omega)
  have bv := le g2 hv (by omega)
  rw [f1, f2, f3, f4, bound x v bx bv, bound u y bu by_, bound L B (by omega) (by omega), bound A G (by omega) (by omega)]
  generalize Nat.gcd G L = g at *
  generalize Nat.gcd B A = h at *
  have e1 : L * B = (g * h) * (x * v) := by rw [hx, hv]; ac_rfl
  have e2 : A * G = (g * h) * (u * y) := by rw [hu, hy]; ac_rfl
  rw [e1, e2]
  have gp : 0 < g * h := Nat.mul_pos g1 g2
  constructor
  · intro z
    have z' : u * y < x * v := by omega
    have := Nat.mul_lt_mul_of_pos_left z' gp
    omega
  · intro z
    have z' : g * h * (u * y) < g * h * (x * v) := by omega
    have := Nat.lt_of_mul_lt_mul_left z'
    omega
theorem vY_nat {x : IY} (h : vY x = true) (h0 : -32768 ≤ x.f0 ∧ x.f0 ≤ 32767) (h2 : -32768 ≤ x.f2 ∧ x.f2 ≤ 32767) : ∃ L G : Nat, x.f0 = (L : Int) ∧ x.f2 = (G : Int) ∧ (1 ≤ L ∧ L ≤ 5000) ∧ (1 ≤ G ∧ G ≤ 2000) := by
  unfold vY at h
  have z := of_decide_eq_true h
  rw [wr (n := x.f0) (by omega) (by omega), wr (n := x.f2) (by omega) (by omega)] at z
  exact ⟨x.f0.toNat, x.f2.toNat, by omega, by omega, by omega, by omega⟩
def OkY (l : List IY) : Prop := ∀ x ∈ l, ∃ L G : Nat, x.f0 = (L : Int) ∧ x.f2 = (G : Int) ∧ (1 ≤ L ∧ L ≤ 5000) ∧ (1 ≤ G ∧ G ≤ 2000)
theorem weak_end (l : List IY) (hl : l.length ≤ 10) (ho : OkY l) (b : Nat) (hb : b < l.length) (i : Nat) (hi : i = l.length) :
    Same (fun k => spec_WeakestOf.l0 k l (b : Int) (i : Int)) (fun k => impl_WeakestOf.l0 k l (b : Int) l (l.length : Int) (i : Int)) := by
  obtain ⟨L, G, e1, e2, hL, hG⟩ := ho l[b] (List.getElem_mem _)
  have c1 : (0 : Int) ≤ (b : Int) := by omega
  have c2 : (b : Int) < (l.length : Int) := by omega
  have w1 : wrap64 (L : Int) = (L : Int) := wr (by omega) (by omega)
  have w2 : wrap64 (G : Int) = (G : Int) := wr (by omega) (by omega)
  refine ⟨((b : Int), fr1 L G, fr2 L G, 0), ?_, ?_⟩
  · refine Ev.step (fun k => by simp only [spec_WeakestOf.l0, rdIY hb, e1, e2, w1, w2]; rw [if_neg (by omega), if_pos c1, if_pos c2]) ?_
    exact Ev.bind (specFrac_ev L G hL hG) (Ev.now _)
  · refine Ev.step (fun k => by simp only [impl_WeakestOf.l0, rdIY hb, e1, e2]; rw [if_neg (by omega), if_pos c1, if_pos c2]) ?_
    exact Ev.bind (implFrac_ev L G _ hL hG) (Ev.now _)
theorem weak_loop (l : List IY) (hl : l.length ≤ 10) (ho : OkY l) (d : Nat) : ∀ (i b : Nat), i + d = l.length → b < l.length →
    Same (fun k => spec_WeakestOf.l0 k l (b : Int) (i : Int)) (fun k => impl_WeakestOf.l0 k l (b : Int) l (l.length : Int) (i : Int)) := by
  induction d with
  | zero => intro i b hi hb; exact weak_end l hl ho b hb i (by omega)
  | succ d ih =>
    intro i b hi hb
    have hil : i < l.length := by omega
    obtain ⟨L, G, e1, e2, hL, hG⟩ := ho l[i] (List.getElem_mem _)
    obtain ⟨A, B, e3, e4, hA, hB⟩ := ho l[b] (List.getElem_mem _)
    have c1 : (0 : Int) ≤ (b : Int) := by omega
    have c2 : (b : Int) < (l.length : Int) := by omega
    have c3 : (0 : Int) ≤ (i : Int) := by omega
    have c4 : (i : Int) < (l.length : Int) := by omega
    have w1 : wrap64 (L : Int) = (L : Int) := wr (by omega) (by omega)
    have w2 : wrap64 (G : Int) = (G : Int) := wr (by omega) (by omega)
    have w3 : wrap64 (A : Int) = (A : Int) := wr (by omega) (by omega)
    have w4 : wrap64 (B : Int) = (B : Int) := wr (by omega) (by omega)
    have w5 : wrap64 ((i : Int) + 1) = ((i + 1 : Nat) : Int) := by rw [wr (by omega) (by omega)]; omega
    have x := cross hL hG hA hB
    by_cases hc : wrap64 ((L : Int) * (B : Int)) > wrap64 ((A : Int) * (G : Int))
    · obtain ⟨r, s, p⟩ := ih (i + 1) i (by omega) (by omega)
      refine ⟨r, Ev.step (fun k => ?_) s, Ev.step (fun k => by simp only [impl_WeakestOf.l0, rdIY hil, rdIY hb, e1, e2, e3, e4]; rw [if_pos c4, if_pos c3, if_pos c4]) (Ev.bind (implFrac_ev L G _ hL hG) ?_)⟩
      · simp only [spec_WeakestOf.l0, rdIY hil, rdIY hb, e1, e2, e3, e4, w1, w2, w3, w4, w5]
        rw [if_pos c4, if_pos c3, if_pos c1, if_pos c2, if_pos hc]
      · simp only [if_pos c1, if_pos c2]
        refine Ev.bind (implFrac_ev A B _ hA hB) ?_
        simp only [if_pos (x.2 hc), w5]; exact p
    · obtain ⟨r, s, p⟩ := ih (i + 1) b (by omega) hb
      refine ⟨r, Ev.step (fun k => ?_) s, Ev.step (fun k => by simp only [impl_WeakestOf.l0, rdIY hil, rdIY hb, e1, e2, e3, e4]; rw [if_pos c4, if_pos c3, if_pos c4]) (Ev.bind (implFrac_ev L G _ hL hG) ?_)⟩
      · simp only [spec_WeakestOf.l0, rdIY hil, rdIY hb, e1, e2, e3, e4, w1, w2, w3, w4, w5]
        rw [if_pos c4, if_pos c3, if_pos c1, if_pos c2, if_neg hc]
      · simp only [if_pos c1, if_pos c2]
        refine Ev.bind (implFrac_ev A B _ hA hB) ?_
        simp only [if_neg (fun h => hc (x.1 h)), w5]; exact p
theorem weak_same (l : List IY) (hl : (l.length : Int) ≤ 140737488351232) (hw : ∀ x ∈ l, (-32768 ≤ x.f0 ∧ x.f0 ≤ 32767) ∧ (-32768 ≤ x.f2 ∧ x.f2 ≤ 32767)) : Same (fun k => spec_WeakestOf.f k l) (fun k => impl_WeakestOf.f k l) := by
  unfold spec_WeakestOf.f impl_WeakestOf.f
  simp only [impl_yCode l _ hl, Option.bind_some]
  by_cases hc : yCode l true = 0
  · obtain ⟨hv, _, hlen⟩ := yCode_zero hc
    by_cases h0 : (l.length : Int) = 0
    · refine ⟨(0, 0, 0, 6), Ev.bind (spec_yCode l _ hl) ?_, ?_⟩
      · simp only [hc, if_true, h0]
        exact Ev.step (fun k => by simp only [spec_WeakestOf.j0]; rfl) (Ev.step (f := fun _ => some (0, 0, 0, 6)) (fun k => by simp [spec_WeakestOf.j1]) (Ev.now _))
      · simp only [hc, if_true, if_pos h0]; exact Ev.now _
    · have hb : ((l.length : Int) == 0) = false := by simpa using h0
      have ho : OkY l := fun x hx => vY_nat (hv x hx) (hw x hx).1 (hw x hx).2
      have hp : 0 < l.length := by omega
      -- the reference begins at 1, the program at 0: the first is compared with itself
      obtain ⟨r, s, p⟩ := weak_loop l hlen ho (l.length - 1) 1 0 (by omega) hp
      obtain ⟨L, G, e1, e2, hL, hG⟩ := ho l[0] (List.getElem_mem _)
      have p0 : Ev (fun k => impl_WeakestOf.l0 k l 0 l (l.length : Int) 0) r := by
        have q := rdIY (l := l) (i := 0) hp
        have q' : rd_T33 l (0 : Int) = l[0] := q
        have c1 : (0 : Int) < (l.length : Int) := by omega
        have c2 : (0 : Int) ≤ 0 := by omega
        have w5 : wrap64 ((0 : Int) + 1) = ((1 : Nat) : Int) := by rw [wr (by omega) (by omega)]; rfl
        refine Ev.step (fun k => by simp only [impl_WeakestOf.l0, q', e1, e2]; rw [if_pos c1, if_pos c2, if_pos c1]) (Ev.bind (implFrac_ev L G _ hL hG) ?_)
        simp only [if_pos c2, if_pos c1]
        refine Ev.bind (implFrac_ev L G _ hL hG) ?_
        simp only [gt_iff_lt, Int.lt_irrefl, if_false, w5]; exact p
      refine ⟨r, Ev.bind (spec_yCode l _ hl) ?_, ?_⟩
      · simp only [hc, if_true]
        rw [hb]
        exact Ev.step (fun k => by simp only [spec_WeakestOf.j0, Bool.false_eq_true, if_false]; rfl) (Ev.step (fun k => by simp only [spec_WeakestOf.j1, if_true]; rfl) s)
      · simp only [hc, if_true, if_neg h0]; exact p0
  · refine ⟨(0, 0, 0, yCode l true), Ev.bind (spec_yCode l _ hl) ?_, ?_⟩
    · simp only [if_neg hc]
      exact Ev.step (fun k => by simp only [spec_WeakestOf.j0, Bool.false_eq_true, if_false]; rfl) (Ev.step (f := fun _ => some (0, 0, 0, yCode l true)) (fun k => by simp only [spec_WeakestOf.j1, if_neg hc]) (Ev.now _))
    · simp only [if_neg hc]; exact Ev.now _
theorem wfy16 {a : Int} (h : (Lit.int .i16 a).wf = true) : -32768 ≤ a ∧ a ≤ 32767 := by
  simp only [Lit.wf, IntKind.min, IntKind.max, IntKind.signed, IntKind.bits, Bool.and_eq_true, decide_eq_true_eq, if_true] at h
  omega
theorem EvenPlies_same (l : List IY) (q : Int) (hl : (l.length : Int) ≤ 140737488351232) (hw : ∀ x ∈ l, -32768 ≤ x.f0 ∧ x.f0 ≤ 32767) :
    ∃ r : List Int × Int × Int, Ev (fun k => spec_EvenPlies.f k l q) r ∧ Ev (fun k => impl_EvenPlies.f k l q) r ∧ (r.1.length : Int) ≤ 10 := by
  unfold spec_EvenPlies.f impl_EvenPlies.f
  obtain ⟨fine, hfine⟩ : ∃ x, x = decide (1 ≤ q ∧ q ≤ 6) := ⟨_, rfl⟩
  simp only [l00In_f, within_f, Option.bind_some, ← hfine, impl_yCode l fine hl]
  by_cases hc : yCode l fine = 0
  · obtain ⟨hv, hf, hlen⟩ := yCode_zero hc
    rw [hfine, decide_eq_true_eq] at hf
    have ho : ∀ x ∈ l, 1 ≤ x.f0 ∧ x.f0 ≤ 5000 := by
      intro x hx
      have h1 := hw x hx
      have h2 := hv x hx
      unfold vY at h2
      have z := (of_decide_eq_true h2).1
      rw [wr (n := x.f0) (by omega) (by omega)] at z
      exact z
    by_cases hgt : q > (l.length : Int)
    · refine ⟨([], 0, 6), Ev.bind (spec_yCode l fine hl) ?_, ?_, by simp⟩
      · simp only [if_pos hc, if_pos hgt]; exact Ev.now _
      · simp only [if_pos hc, if_pos hgt]; exact Ev.now _
    · obtain ⟨p, rfl⟩ := Int.eq_ofNat_of_zero_le (show 0 ≤ q by omega)
      have hp : 1 ≤ p ∧ p ≤ 6 := by omega
      have hl10 : l.length ≤ 10 := by omega
      have hI : EI l p [] [0, 0, 0, 0, 0, 0] (List.replicate l.length 0) (List.replicate p 0) 0 0 := by
        have rz : ∀ j : Nat, rd (List.replicate p 0) (j : Int) = 0 := by
          intro j; unfold rd; simp [List.getD, List.getElem?_replicate]; split <;> rfl
        have rs : ∀ j : Nat, rd [0, 0, 0, 0, 0, 0] (j : Int) = 0 := by
          intro j; unfold rd
          rw [Int.toNat_natCast]
          match j with
          | 0 | 1 | 2 | 3 | 4 | 5 => rfl
          | n + 6 => rfl
        refine ⟨rfl, by simp, by simp, rfl, by omega, fun j hj => ?_, max_of ?_ ?_⟩
        · rw [rz, rs]; simp
        · exact List.mem_replicate.2 ⟨by omega, rfl⟩
        · intro y hy; have := (List.mem_replicate.1 hy).2; omega
      obtain ⟨B, m, O, s, i, _, _, h0, hB⟩ := even_go l p hp hl10 ho l.length [] _ _ _ 0 0 [] 0 (-1) false (by simp) hI ⟨(fun z => by cases z), fun _ => rfl⟩
      have g : 0 ≤ (p : Int) ∧ (p : Int) ≤ 1048576 ∧ l.length ≤ 1048576 := by omega
      refine ⟨(B, m, 0), Ev.bind (spec_yCode l fine hl) ?_, ?_, by simp only; omega⟩
      · simp only [if_pos hc, if_neg hgt]; exact Ev.bind s (Ev.now _)
      · simp only [if_pos hc, if_neg hgt, if_pos g]; exact Ev.bind i (Ev.now _)
  · refine ⟨([], 0, yCode l fine), Ev.bind (spec_yCode l fine hl) ?_, ?_, by simp⟩
    · simp only [if_neg hc]; exact Ev.now _
    · simp only [if_neg hc]; exact Ev.now _
theorem wr16 {n : Int} (h : -32768 ≤ n ∧ n ≤ 32767) : IntKind.i16.wrap n = n := by
  simp only [IntKind.wrap, IntKind.bits, IntKind.signed]
  simp
  omega
/-- A yarn as it is drawn. -/
def YOk (y : IY) : Prop := (1 ≤ y.f0 ∧ y.f0 ≤ 120) ∧ (-200 ≤ y.f1 ∧ y.f1 < 200) ∧ (1 ≤ y.f2 ∧ y.f2 ≤ 50)
theorem drawn_f (s : List Int) (hs : bytesL s) (p d : Int) (h0 : 0 ≤ p) (h1 : p ≤ 1000000) : ∃ a b c p' d', spec_l03Drawn.f s p d = some (a, b, c, p', d') ∧ YOk ⟨a, b, c⟩ ∧ p ≤ p' ∧ p' ≤ p + 6 := by
  obtain ⟨a, p1, d1, e1, a0, a1, q1, q2⟩ := pick_f s hs p d 120 h0 (by omega) (by omega)
  obtain ⟨b, p2, d2, e2, b0, b1, q3, q4⟩ := pick_f s hs p1 d1 400 (by omega) (by omega) (by omega)
  obtain ⟨c, p3, d3, e3, c0, c1, q5, q6⟩ := pick_f s hs p2 d2 50 (by omega) (by omega) (by omega)
  refine ⟨1 + a, b - 200, 1 + c, p3, d3, ?_, ⟨by simp only; omega, by simp only; omega, by simp only; omega⟩, by omega, by omega⟩
  unfold spec_l03Drawn.f
  rw [e1]; simp only [Option.bind_some]; rw [e2]; simp only [Option.bind_some]; rw [e3]; simp only [Option.bind_some]
  rw [wr (n := 1 + a) (by omega) (by omega), wr (n := b - 200) (by omega) (by omega), wr (n := 1 + c) (by omega) (by omega), wr16 (n := 1 + a) (by omega), wr16 (n := b - 200) (by omega), wr16 (n := 1 + c) (by omega)]
theorem yarns_loop (s : List Int) (hs : bytesL s) : ∀ (n : Nat) (out : List IY) (p d : Int), 0 ≤ p → p + 6 * (n : Int) ≤ 1000000 → out.length + n ≤ 100 → (∀ y ∈ out, YOk y) →
    ∃ l, Ev (fun k => spec_P6Yarns.l0 k out (n : Int) s p d) l ∧ l.length = out.length + n ∧ ∀ y ∈ l, YOk y := by
  intro n
  induction n with
  | zero =>
    intro out p d h0 h1 h2 ho
    refine ⟨out, Ev.step (f := fun _ => some out) (fun k => ?_) (Ev.now _), by omega, ho⟩
    simp only [spec_P6Yarns.l0]; rw [if_neg (by omega)]
  | succ n ih =>
    intro out p d h0 h1 h2 ho
    obtain ⟨a, b, c, p', d', e, y, q1, q2⟩ := drawn_f s hs p d h0 (by omega)
    obtain ⟨l, f1, f2, f3⟩ := ih (out ++ [⟨a, b, c⟩]) p' d' (by omega) (by omega) (by simp; omega) (by
      intro z hz
      rcases List.mem_append.1 hz with h | h
      · exact ho z h
      · rw [List.mem_singleton.1 h]; exact y)
    refine ⟨l, Ev.step (fun k => ?_) f1, by rw [f2]; simp; omega, f3⟩
    simp only [spec_P6Yarns.l0]
    rw [if_pos (by omega), e]
    simp only [Option.bind_some]
    rw [if_pos (by omega), wr (n := ((n + 1 : Nat) : Int) - 1) (by omega) (by omega), show ((n + 1 : Nat) : Int) - 1 = (n : Int) by omega]
/-- What is drawn as yarns. -/
def VOk (l : List IY) : Prop := l.length ≤ 6 ∧ ∀ y ∈ l, YOk y
theorem yarns_ev (s : List Int) (hs : bytesL s) : ∃ l, Ev (fun k => spec_P6Yarns.f k s) l ∧ VOk l := by
  unfold spec_P6Yarns.f spec_l00From.f
  simp only [Option.bind_some]
  obtain ⟨v, p, d, e, v0, v1, q1, q2⟩ := pick_f s hs 0 0 7 (by omega) (by omega) (by omega)
  rw [e]
  simp only [Option.bind_some]
  obtain ⟨n, rfl⟩ := Int.eq_ofNat_of_zero_le v0
  obtain ⟨l, f1, f2, f3⟩ := yarns_loop s hs n [] p d (by omega) (by omega) (by simp; omega) (by simp)
  exact ⟨l, f1, by simp at f2; omega, f3⟩
theorem p6pick_f (s : List Int) (hs : bytesL s) (n : Int) (hn : 1 ≤ n) : ∃ t, spec_P6Pick.f s n = some t ∧ 0 ≤ t ∧ t < n := by
  unfold spec_P6Pick.f spec_l00From.f
  simp only [Option.bind_some]
  obtain ⟨v, p, d, e, v0, v1, q1, q2⟩ := pick_f s hs 0 0 n (by omega) (by omega) hn
  rw [e]
  exact ⟨v, rfl, v0, v1⟩
theorem f6big_f (l : List Int) : laws_f6big.f l = some (decide ((l.length : Int) > 4096)) := rfl
theorem VOk.y {l : List IY} (h : VOk l) {i : Nat} (hi : i < l.length) : YOk l[i] := h.2 _ (List.getElem_mem _)
theorem YOk.v {y : IY} (h : YOk y) : vY y = true := by
  obtain ⟨⟨a, b⟩, ⟨c, d⟩, e, f⟩ := h
  unfold vY
  rw [wr (n := y.f0) (by omega) (by omega), wr (n := y.f1) (by omega) (by omega), wr (n := y.f2) (by omega) (by omega)]
  exact decide_eq_true (by omega)
theorem VOk.all {l : List IY} (h : VOk l) : l.all vY = true := List.all_eq_true.2 fun x hx => (h.2 x hx).v
theorem VOk.code {l : List IY} (h : VOk l) (b : Bool) : yCode l b = if b = true then 0 else 2 := by
  unfold yCode
  rw [if_pos h.all]
  have := h.1
  split
  · rw [if_neg (by omega)]
  · rfl
theorem VOk.okT {l : List IY} (h : VOk l) : OkT l := fun x hx => by have := (h.2 x hx).2.1; omega
theorem VOk.pc {l : List IY} (h : VOk l) {t : Int} (ht : -2000 ≤ t ∧ t ≤ 2000) : pCode l t = if 2 ≤ l.length then 0 else 4 := by
  unfold pCode
  have h1 := h.1
  rw [h.code, decide_eq_true ht, if_pos rfl, if_pos rfl]
  by_cases c : 2 ≤ l.length
  · rw [if_pos c, if_pos (by omega)]
  · rw [if_neg c, if_neg (by omega)]
/-- What balances yarns best. -/
theorem balance_both {l : List IY} (h : VOk l) (h2 : 2 ≤ l.length) : ∃ c, Ev (fun k => spec_BalanceTurns.f k l) (c, restT l c, 0) ∧ Ev (fun k => impl_BalanceTurns.f k l) (c, restT l c, 0) ∧ (-2000 ≤ c ∧ c ≤ 2000) ∧ ∀ t, -2000 ≤ t → t ≤ 2000 → restT l c ≤ restT l t := by
  have h1 := h.1
  obtain ⟨c, e, hc, hall⟩ := balance_ev l (by omega) h.okT
  obtain ⟨r, a, b⟩ := BalanceTurns_same l (by omega)
  have s : Ev (fun k => spec_BalanceTurns.f k l) (c, restT l c, 0) := by
    unfold spec_BalanceTurns.f
    refine Ev.bind (spec_pCode l 0 (by omega)) ?_
    rw [h.pc (by omega), if_pos h2]
    simp only [if_true]
    exact Ev.bind e (Ev.now _)
  obtain rfl := ev_fun a s
  exact ⟨c, a, b, hc, hall⟩
theorem balance_few {l : List IY} (h : VOk l) (h2 : ¬ 2 ≤ l.length) : Ev (fun k => spec_BalanceTurns.f k l) (0, 0, 4) ∧ Ev (fun k => impl_BalanceTurns.f k l) (0, 0, 4) := by
  have h1 := h.1
  obtain ⟨r, a, b⟩ := BalanceTurns_same l (by omega)
  have s : Ev (fun k => spec_BalanceTurns.f k l) (0, 0, 4) := by
    unfold spec_BalanceTurns.f
    refine Ev.bind (spec_pCode l 0 (by omega)) ?_
    rw [h.pc (by omega), if_neg h2]
    simp only [show ¬ ((4 : Int) = 0) by omega, if_false]
    exact Ev.now _
  obtain rfl := ev_fun a s
  exact ⟨a, b⟩
theorem rest_both {l : List IY} (h : VOk l) {t : Int} (ht : -2000 ≤ t ∧ t ≤ 2000) : Ev (fun k => spec_RestOf.f k l t) (if 2 ≤ l.length then (restT l t, 0) else (0, 4)) ∧ Ev (fun k => impl_RestOf.f k l t) (if 2 ≤ l.length then (restT l t, 0) else (0, 4)) := by
  have h1 := h.1
  have e := rest_evf l (by omega) h.okT t ht
  obtain ⟨r, a, b⟩ := rest_loop l t (by omega) l.length 0 0 (by omega)
  have e' : Ev (fun k => spec_l03Rest.l0 k l t 0 0) (restT l t) := e
  obtain rfl := ev_fun a e'
  unfold spec_RestOf.f impl_RestOf.f
  simp only [impl_pCode l t (by omega), Option.bind_some]
  by_cases c : 2 ≤ l.length
  · have hp : pCode l t = 0 := by rw [h.pc ht, if_pos c]
    simp only [hp, if_true, if_pos c]
    refine ⟨Ev.bind (spec_pCode l t (by omega)) ?_, Ev.bind (show Ev (fun k => impl_rest.f k l t) _ from b) (Ev.now _)⟩
    simp only [hp, if_true]; exact Ev.bind e (Ev.now _)
  · have hp : pCode l t = 4 := by rw [h.pc ht, if_neg c]
    have h4 : ¬ ((4 : Int) = 0) := by omega
    simp only [hp, if_neg h4, if_neg c]
    refine ⟨Ev.bind (spec_pCode l t (by omega)) ?_, Ev.now _⟩
    simp only [hp, if_neg h4]; exact Ev.now _
/-- Plied yarns: how long, and what becomes of them. -/
theorem ply_both {l : List IY} (h : VOk l) (h2 : 2 ≤ l.length) {t : Int} (ht : -2000 ≤ t ∧ t ≤ 2000) : ∃ a c w x y z q, Ev (fun k => spec_PlyLong.f k l t) (a, c) ∧ Ev (fun k => impl_PlyLong.f k l t) (a, c) ∧ Ev (fun k => spec_PlyYarns.f k l t) (x, y, z, q) ∧ Ev (fun k => impl_PlyYarns.f k l t) (x, y, z, q) ∧ w = 0 ∧ (c = 0 → q = 0 → wrap64 x = a ∧ wrap64 y = t) ∧ (¬ c = 0 → q = c) := by
  have h1 := h.1
  obtain ⟨⟨a, c⟩, f1, f2⟩ := PlyLong_same l t (by omega)
  obtain ⟨⟨x, y, z, q⟩, f3, f4⟩ := PlyYarns_same l t (by omega)
  refine ⟨a, c, 0, x, y, z, q, f1, f2, f3, f4, rfl, ?_⟩
  have hp : pCode l t = 0 := by rw [h.pc ht, if_pos h2]
  obtain ⟨r, e1, e2⟩ := plied_same l t (fun x hx => (h.2 x hx).v) h2 h1
  have g : Ev (fun k => impl_PlyLong.f k l t) (if r < 1 then (0, 6) else (r, 0)) := by
    unfold impl_PlyLong.f
    simp only [impl_pCode l t (by omega), Option.bind_some, hp, if_true]
    refine Ev.bind e2 ?_
    by_cases hr : r < 1
    · simp only [if_pos hr]; exact Ev.now _
    · simp only [if_neg hr]; exact Ev.now _
  have k1 := ev_fun f2 g
  have g2 : ∃ G, Ev (fun k => impl_PlyYarns.f k l t) (if r < 1 then (0, 0, 0, 6) else (if (1 ≤ r ∧ r ≤ 5000) ∧ (-2000 ≤ t ∧ t ≤ 2000) ∧ 1 ≤ G ∧ G ≤ 2000 then (IntKind.i16.wrap r, IntKind.i16.wrap t, IntKind.i16.wrap G, 0) else (0, 0, 0, 4))) := by
    refine ⟨wrap64 (sumG l), ?_⟩
    unfold impl_PlyYarns.f
    refine Ev.bind g ?_
    by_cases hr : r < 1
    · simp only [if_pos hr, show ¬ ((6 : Int) = 0) by omega, if_false]; exact Ev.now _
    · simp only [if_neg hr, if_true]
      refine Ev.bind (impl_sums_ev l (by omega)) ?_
      unfold impl_makeYarn.f
      simp only [within_f, Option.bind_some, if_dec]
      by_cases m1 : 1 ≤ r ∧ r ≤ 5000
      · by_cases m3 : 1 ≤ wrap64 (sumG l) ∧ wrap64 (sumG l) ≤ 2000
        · simp only [if_pos m1, if_pos ht, if_pos m3, Option.bind_some, if_true]
          rw [if_pos ⟨m1, ht, m3⟩]; exact Ev.now _
        · simp only [if_pos m1, if_pos ht, if_neg m3, Option.bind_some, Bool.false_eq_true, if_false]
          rw [if_neg (fun z => m3 z.2.2)]; exact Ev.now _
      · simp only [if_neg m1, Option.bind_some, Bool.false_eq_true, if_false]
        rw [if_neg (fun z => m1 z.1)]; exact Ev.now _
  obtain ⟨G, g2⟩ := g2
  have k2 := ev_fun f4 g2
  by_cases hr : r < 1
  · rw [if_pos hr] at k1 k2
    simp only [Prod.mk.injEq] at k1 k2
    refine ⟨fun z => by omega, fun _ => by omega⟩
  · rw [if_neg hr] at k1 k2
    simp only [Prod.mk.injEq] at k1
    refine ⟨fun _ z => ?_, fun z => absurd k1.2 z⟩
    by_cases m : (1 ≤ r ∧ r ≤ 5000) ∧ (-2000 ≤ t ∧ t ≤ 2000) ∧ 1 ≤ G ∧ G ≤ 2000
    · rw [if_pos m] at k2
      simp only [Prod.mk.injEq] at k2
      obtain ⟨rfl, rfl, rfl, _⟩ := k2
      rw [wr16 (n := r) (by omega), wr16 (n := t) (by omega), wr (n := r) (by omega) (by omega), wr (n := t) (by omega) (by omega)]
      exact ⟨k1.1.symm, rfl⟩
    · rw [if_neg m] at k2
      simp only [Prod.mk.injEq] at k2
      omega
/-- The numbers that pairs hold. -/
def flatP (P : List (Nat × Nat)) : List Nat := P.flatMap fun p => [p.1, p.2]
theorem flatP_app (P Q : List (Nat × Nat)) : flatP (P ++ Q) = flatP P ++ flatP Q := by simp [flatP]
/-- Neighbours as pairs. -/
def plainP : List Nat → List (Nat × Nat)
  | a :: b :: t => (a, b) :: plainP t
  | _ => []
/-- Pairs so far, and the numbers that are left. -/
structure Good (n : Nat) (P : List (Nat × Nat)) (L : List Nat) : Prop where
  lo : ∀ p ∈ P, p.1 < p.2 ∧ p.2 < n
  nd : (flatP P ++ L).Nodup
  pw : P.Pairwise fun p q => p.1 < q.1
  lt : ∀ p ∈ P, ∀ i ∈ L, p.1 < i
  so : L.Pairwise (· < ·)
  bd : ∀ i ∈ L, i < n
  ev : L.length % 2 = 0
  ln : 2 * P.length + L.length = n
theorem Good.child {n : Nat} {P : List (Nat × Nat)} {a c : Nat} {X Y : List Nat} (h : Good n P (a :: (X ++ c :: Y))) : Good n (P ++ [(a, c)]) (X ++ Y) := by
  have hac : a < c := (List.pairwise_cons.1 h.so).1 c (by simp)
  have hsub : ∀ i ∈ X ++ Y, i ∈ a :: (X ++ c :: Y) := by
    intro i hi
    rcases List.mem_append.1 hi with hi | hi <;> simp [hi]
  have hai : ∀ i ∈ X ++ Y, a < i := fun i hi => by
    refine (List.pairwise_cons.1 h.so).1 i ?_
    rcases List.mem_append.1 hi with hi | hi <;> simp [hi]
  refine ⟨?_, ?_, ?_, ?_, ?_, ?_, ?_, ?_⟩
  · intro p hp
    rcases List.mem_append.1 hp with hp | hp
    · exact h.lo p hp
    · rw [List.mem_singleton.1 hp]; exact ⟨hac, h.bd c (by simp)⟩
  · have e : flatP (P ++ [(a, c)]) ++ (X ++ Y) = flatP P ++ (a :: c :: (X ++ Y)) := by simp [flatP]
    rw [e]
    refine (List.Perm.nodup_iff ?_).1 h.nd
    exact List.Perm.append_left _ (List.Perm.cons a List.perm_middle)
  · rw [List.pairwise_append]
    refine ⟨h.pw, by simp, fun p hp q hq => ?_⟩
    rw [List.mem_singleton.1 hq]; exact h.lt p hp a (by simp)
  · intro p hp i hi
    rcases List.mem_append.1 hp with hp | hp
    · exact h.lt p hp i (hsub i hi)
    · rw [List.mem_singleton.1 hp]; exact hai i hi
  · have q := (List.pairwise_cons.1 h.so).2
    rw [List.pairwise_append, List.pairwise_cons] at q
    rw [List.pairwise_append]
    exact ⟨q.1, q.2.1.2, fun x hx y hy => q.2.2 x hx y (by simp [hy])⟩
  · exact fun i hi => h.bd i (hsub i hi)
  · have := h.ev; simp at this ⊢; omega
  · have := h.ln; simp at this ⊢; omega
/-- What the best ones are. -/
def BestM (l : List IY) (B : List IP) (m : Int) : Prop := 0 ≤ m → ∃ Q, B = upP Q ∧ Good l.length Q [] ∧ sumP l Q = m
section
variable (l : List IY) (hl : l.length ≤ 10) (ho : OkT l)
include ho hl
theorem matches_good : ∀ k,
    (∀ (L : List Nat) (P : List (Nat × Nat)) (B : List IP) (mi : Int) (r : List IP × Int), Good l.length P L → BestM l B mi → impl_matches.f l k (up L) (upP P) B mi = some r → 0 ≤ r.2 ∧ BestM l r.1 r.2 ∧ (0 ≤ mi → r.2 ≤ mi) ∧ r.2 ≤ sumP l (P ++ plainP L)) ∧
    (∀ (a : Nat) (X Y : List Nat) (P : List (Nat × Nat)) (B : List IP) (mi : Int) (r : List IP × Int), Good l.length P (a :: (X ++ Y)) → BestM l B mi → impl_matches.l0 l k (up (a :: (X ++ Y))) (upP P) (X.length + 1) B mi = some r → BestM l r.1 r.2 ∧ (0 ≤ mi → 0 ≤ r.2 ∧ r.2 ≤ mi) ∧ (X = [] → Y ≠ [] → 0 ≤ r.2 ∧ r.2 ≤ sumP l (P ++ plainP (a :: (X ++ Y)))))
  | 0 => ⟨fun _ _ _ _ _ _ _ h => by simp [impl_matches.f] at h, fun _ _ _ _ _ _ _ _ _ h => by simp [impl_matches.l0] at h⟩
  | k + 1 => by
    obtain ⟨ih1, ih2⟩ := matches_good k
    refine ⟨?_, ?_⟩
    · intro L P B mi r hg hb h
      rw [impl_matches.f] at h
      cases L with
      | nil =>
        have e0 : (up ([] : List Nat)).length = 0 := rfl
        rw [if_pos e0] at h
        unfold impl_MatchSingles_1.f at h
        have hp : ∀ p ∈ P, p.1 < l.length ∧ p.2 < l.length := fun p hp => by have := hg.lo p hp; omega
        have hln := hg.ln
        have sb := sumP_bd l ho P hp
        rw [sum1 l ho P 0 hp (by omega) (by simp at hln; omega), Option.bind_some, Int.zero_add] at h
        obtain rfl := Option.some.inj h
        simp only [plainP, List.append_nil]
        by_cases c : mi < 0 ∨ sumP l P < mi
        · rw [if_pos c]
          exact ⟨sb.1, fun _ => ⟨P, rfl, hg, rfl⟩, fun z => by simp only; omega, Int.le_refl _⟩
        · rw [if_neg c]
          exact ⟨by simp only; omega, hb, fun _ => Int.le_refl _, by simp only; omega⟩
      | cons a t =>
        have e0 : ¬ (up (a :: t)).length = 0 := by rw [up_len]; simp
        rw [if_neg e0] at h
        have hne : t ≠ [] := fun z => by have := hg.ev; rw [z] at this; simp at this
        obtain ⟨q1, q2, q3⟩ := ih2 a [] t P B mi r (by simpa using hg) hb (by simpa using h)
        have q4 := q3 rfl hne
        exact ⟨q4.1, q1, fun z => (q2 z).2, by simpa using q4.2⟩
    · intro a X Y P B mi r hg hb h
      rw [impl_matches.l0] at h
      cases Y with
      | nil =>
        have e0 : ¬ X.length + 1 < (up (a :: (X ++ []))).length := by rw [up_len]; simp
        rw [if_neg e0] at h
        obtain rfl := Option.some.inj h
        exact ⟨hb, fun z => ⟨z, Int.le_refl _⟩, fun _ z => absurd rfl z⟩
      | cons c Y =>
        have e0 : X.length + 1 < (up (a :: (X ++ c :: Y))).length := by rw [up_len]; simp
        rw [if_pos e0] at h
        have eL : ((up (a :: (X ++ c :: Y))).take (X.length + 1)).drop 1 ++ (up (a :: (X ++ c :: Y))).drop (X.length + 1 + 1) = up (X ++ Y) := by
          rw [up_take, up_drop, up_drop, ← up_app]
          congr 1
          simp
        have eP : upP P ++ [(⟨rd (up (a :: (X ++ c :: Y))) 0, rd (up (a :: (X ++ c :: Y))) ((X.length + 1 : Nat) : Int)⟩ : IP)] = upP (P ++ [(a, c)]) := by
          have r0 : rd (up (a :: (X ++ c :: Y))) 0 = (a : Int) := rd_up (N := a :: (X ++ c :: Y)) (j := 0) (by simp)
          have rx := rd_up (N := a :: (X ++ c :: Y)) (j := X.length + 1) (by simp)
          have ec : (a :: (X ++ c :: Y))[X.length + 1]'(by simp) = c := by simp
          rw [ec] at rx
          rw [upP_app, r0, rx]; rfl
        split at h
        · rw [eL, eP] at h
          obtain ⟨r1, h1, h2⟩ := Option.bind_eq_some_iff.1 h
          obtain ⟨a1, a2, a3, a4⟩ := ih1 (X ++ Y) (P ++ [(a, c)]) B mi r1 hg.child hb h1
          have ex : a :: (X ++ c :: Y) = a :: ((X ++ [c]) ++ Y) := by simp
          have el : X.length + 1 + 1 = (X ++ [c]).length + 1 := by simp
          rw [ex, el] at h2
          obtain ⟨b1, b2, _⟩ := ih2 a (X ++ [c]) Y P r1.1 r1.2 r (by rw [← ex]; exact hg) a2 h2
          have b3 := b2 a1
          refine ⟨b1, fun z => ⟨b3.1, by have := a3 z; omega⟩, fun hx _ => ⟨b3.1, ?_⟩⟩
          subst hx
          have e2 : P ++ plainP (a :: ([] ++ c :: Y)) = (P ++ [(a, c)]) ++ plainP ([] ++ Y) := by simp [plainP]
          rw [e2]
          exact Int.le_trans b3.2 a4
        · cases h
end
theorem good0 (n : Nat) (hn : n % 2 = 0) : Good n [] (List.range n) :=
  ⟨by simp, by simpa [flatP] using List.nodup_range, by simp, by simp, List.pairwise_lt_range, by simp, by simpa using hn, by simp⟩
/-- What both answer: the best pairs of all that are told. -/
theorem match_both {l : List IY} (h : VOk l) (h2 : l.length % 2 = 0) : ∃ Q m, Ev (fun k => spec_MatchSingles.f k l) (upP Q, m, 0) ∧ Ev (fun k => impl_MatchSingles.f k l) (upP Q, m, 0) ∧ Good l.length Q [] ∧ sumP l Q = m ∧ m ≤ sumP l (plainP (List.range l.length)) := by
  have h1 := h.1
  have ho := h.okT
  have hc : yCode l true = 0 := by rw [h.code]; rfl
  obtain ⟨r, s, i, _⟩ := MatchSingles_same l (by omega) (fun x hx => by have := ho x hx; omega)
  have c2 : ¬ l.length % 2 = 1 := by omega
  obtain ⟨K, hK⟩ := i
  have hk : impl_MatchSingles.f (K + 13) l = some r := hK (K + 13) (by omega)
  unfold impl_MatchSingles.f at hk
  rw [impl_yCode l true (by omega), Option.bind_some, if_pos hc, if_neg c2, if_pos (by omega), at_rounds (fun k => impl_members.mono _ k) (show 13 ≤ K + 13 by omega) (mem0_bf l.length (by omega)), Option.bind_some] at hk
  obtain ⟨q, h3, h4⟩ := Option.bind_eq_some_iff.1 hk
  obtain ⟨m0, m1, _, m3⟩ := (matches_good l (by omega) ho (K + 13)).1 (List.range l.length) [] [] (-1) q (good0 l.length h2) (fun z => absurd z (by omega)) h3
  obtain ⟨Q, e1, e2, e3⟩ := m1 m0
  obtain rfl := Option.some.inj h4
  rw [e1] at s hK
  refine ⟨Q, q.2, s, ⟨K, fun k hk => ?_⟩, e2, e3, by simpa using m3⟩
  exact hK k hk
theorem wp {a b : Int} (ha : 1 ≤ a ∧ a ≤ 120) (hb : 1 ≤ b ∧ b ≤ 50) : wrap64 (wrap64 a * wrap64 b) = a * b := by
  have h1 : a * b ≤ 120 * 50 := Int.mul_le_mul ha.2 hb.2 (by omega) (by omega)
  have h0 : 0 ≤ a * b := Int.mul_nonneg (by omega) (by omega)
  rw [wr (n := a) (by omega) (by omega), wr (n := b) (by omega) (by omega), wr (by omega) (by omega)]
/-- The thinnest of the first n, and the first of these. -/
def Thin (l : List IY) (t n : Nat) : Prop := ∃ ht : t < l.length, ∀ j, ∀ hj : j < l.length, j < n → l[j].f0 * l[t].f2 ≤ l[t].f0 * l[j].f2 ∧ (l[j].f0 * l[t].f2 = l[t].f0 * l[j].f2 → t ≤ j)
theorem thin_trans {a1 g1 a2 g2 a3 g3 : Int} (p1 : 0 < g1) (p2 : 0 < g2) (p3 : 0 < g3) (h : a1 * g2 ≤ a2 * g1) (k : a3 * g2 > a2 * g3) : a1 * g3 < a3 * g1 := by
  have x1 : (a1 * g2) * g3 ≤ (a2 * g1) * g3 := Int.mul_le_mul_of_nonneg_right h (by omega)
  have x2 : (a2 * g3) * g1 < (a3 * g2) * g1 := Int.mul_lt_mul_of_pos_right k p1
  have e1 : (a1 * g2) * g3 = g2 * (a1 * g3) := by ac_rfl
  have e2 : (a2 * g1) * g3 = (a2 * g3) * g1 := by ac_rfl
  have e3 : (a3 * g2) * g1 = g2 * (a3 * g1) := by ac_rfl
  have x3 : g2 * (a1 * g3) < g2 * (a3 * g1) := by omega
  exact Int.lt_of_mul_lt_mul_left x3 (by omega)
theorem weak_good {l : List IY} (h : VOk l) : ∀ k (t i : Nat) r, i ≤ l.length → t < i → Thin l t i → spec_WeakestOf.l0 k l (t : Int) (i : Int) = some r → ∃ u : Nat, r.1 = (u : Int) ∧ r.2.2.2 = 0 ∧ Thin l u l.length
  | 0, _, _, _, _, _, _, e => by simp [spec_WeakestOf.l0] at e
  | k + 1, t, i, r, hi, hti, hT, e => by
    have h1 := h.1
    obtain ⟨ht, hall⟩ := hT
    have yt := h.y ht
    rw [spec_WeakestOf.l0] at e
    by_cases c : i < l.length
    · have yi := h.y c
      rw [if_pos (by omega), if_pos (by omega), if_pos (by omega), if_pos (by omega), rdIY c, rdIY ht, wp yi.1 yt.2.2, wp yt.1 yi.2.2, wr (n := (i : Int) + 1) (by omega) (by omega)] at e
      by_cases q : l[i].f0 * l[t].f2 > l[t].f0 * l[i].f2
      · rw [if_pos q] at e
        refine weak_good h k i (i + 1) r (by omega) (by omega) ⟨c, fun j hj hji => ?_⟩ e
        rcases Nat.lt_or_ge j i with g | g
        · have z := thin_trans (by have := (h.y hj).2.2; omega) (by have := yt.2.2; omega) (by have := yi.2.2; omega) (hall j hj g).1 q
          exact ⟨by omega, fun w => by omega⟩
        · obtain rfl : j = i := by omega
          exact ⟨Int.le_refl _, fun _ => Nat.le_refl _⟩
      · rw [if_neg q] at e
        refine weak_good h k t (i + 1) r (by omega) (by omega) ⟨ht, fun j hj hji => ?_⟩ e
        rcases Nat.lt_or_ge j i with g | g
        · exact hall j hj g
        · obtain rfl : j = i := by omega
          exact ⟨by omega, fun _ => by omega⟩
    · obtain rfl : i = l.length := by omega
      rw [if_neg (by omega), if_pos (by omega), if_pos (by omega)] at e
      obtain ⟨q, e1, e2⟩ := Option.bind_eq_some_iff.1 e
      obtain rfl := Option.some.inj e2
      exact ⟨t, rfl, rfl, ht, hall⟩
theorem weak_both {l : List IY} (h : VOk l) (h0 : 0 < l.length) : ∃ (u : Nat) (a b : Int), Ev (fun k => spec_WeakestOf.f k l) ((u : Int), a, b, 0) ∧ Ev (fun k => impl_WeakestOf.f k l) ((u : Int), a, b, 0) ∧ Thin l u l.length := by
  have h1 := h.1
  have hc : yCode l true = 0 := by rw [h.code]; rfl
  obtain ⟨r, s, i⟩ := weak_same l (by omega) (fun x hx => by have := h.2 x hx; obtain ⟨a, b, c⟩ := this; omega)
  obtain ⟨K, hK⟩ := s
  obtain ⟨K2, hK2⟩ := spec_yCode l true (by omega)
  have hk : spec_WeakestOf.f (K + K2 + 2) l = some r := hK _ (by omega)
  have hk2 : spec_l03Asked.f (K + K2 + 2) l true = some (yCode l true) := hK2 _ (by omega)
  unfold spec_WeakestOf.f at hk
  have hb : ((l.length : Int) == 0) = false := beq_eq_false_iff_ne.mpr (by omega)
  rw [hk2, Option.bind_some, hc, if_pos rfl, hb, spec_WeakestOf.j0, if_neg (by decide), spec_WeakestOf.j1, if_pos rfl] at hk
  obtain ⟨u, e1, e2, e3⟩ := weak_good h (K + K2) 0 1 r (by omega) (by omega) ⟨h0, fun j hj hj1 => by
    obtain rfl : j = 0 := by omega
    exact ⟨Int.le_refl _, fun _ => Nat.le_refl _⟩⟩ hk
  obtain ⟨r1, r2, r3, r4⟩ := r
  simp only at e1 e2
  subst e1 e2
  exact ⟨u, r2, r3, ⟨K, hK⟩, i, e3⟩
/-- How long a part is. -/
def psum : List IY → List Int → Int → Int
  | y :: l, b :: B, k => (if b = k then y.f0 else 0) + psum l B k
  | _, _, _ => 0
theorem psum_nil (l : List IY) (k : Int) : psum l [] k = 0 := by cases l <;> rfl
theorem psum_app (k x : Int) : ∀ (l : List IY) (N : List Int) (h : N.length < l.length), psum l (N ++ [x]) k = psum l N k + if x = k then l[N.length].f0 else 0
  | [], N, h => by simp at h
  | y :: l, [], h => by simp [psum, psum_nil]
  | y :: l, b :: N, h => by
    have ih := psum_app k x l N (by simpa using h)
    simp only [List.cons_append, psum, List.length_cons, List.getElem_cons_succ]
    rw [ih]; omega
theorem psum_bd (k : Int) : ∀ (l : List IY) (N : List Int), (∀ y ∈ l, YOk y) → 0 ≤ psum l N k ∧ psum l N k ≤ 120 * (l.length : Int)
  | [], N, _ => by cases N <;> simp [psum]
  | y :: l, [], _ => by rw [psum_nil]; simp; omega
  | y :: l, b :: N, h => by
    have ih := psum_bd k l N (fun z hz => h z (List.mem_cons_of_mem _ hz))
    have hy := (h y (by simp)).1
    simp only [psum, List.length_cons]
    split <;> omega
/-- Parts of all yarns, and the longest one of them. -/
def BestE (l : List IY) (p : Nat) (B : List Int) (m : Int) : Prop := B.length = l.length ∧ (∀ x ∈ B, 0 ≤ x ∧ x < (p : Int)) ∧ (∀ j : Nat, j < p → psum l B (j : Int) ≤ m) ∧ ∃ j : Nat, j < p ∧ psum l B (j : Int) = m
structure PartE (l : List IY) (p : Nat) (N S : List Int) (mo : Int) : Prop where
  sl : S.length = 6
  nl : N.length ≤ l.length
  ne : ∀ x ∈ N, 0 ≤ x ∧ x < (p : Int)
  se : ∀ j : Nat, j < 6 → rd S (j : Int) = psum l N (j : Int)
  le : ∀ j : Nat, j < p → psum l N (j : Int) ≤ mo
  is : ∃ j : Nat, j < p ∧ psum l N (j : Int) = mo
theorem PartE.next {l : List IY} {p : Nat} {N S : List Int} {mo : Int} (h : PartE l p N S mo) (hp : p ≤ 6) {x : Nat} (hx : x < p) (hn : N.length < l.length) (ho : ∀ y ∈ l, YOk y) :
    PartE l p (N ++ [(x : Int)]) (S.set x (psum l N (x : Int) + l[N.length].f0)) (if mo > psum l N (x : Int) + l[N.length].f0 then mo else psum l N (x : Int) + l[N.length].f0) := by
  have hy := (ho l[N.length] (List.getElem_mem _)).1
  have e : ∀ j : Nat, psum l (N ++ [(x : Int)]) (j : Int) = if j = x then psum l N (x : Int) + l[N.length].f0 else psum l N (j : Int) := by
    intro j
    rw [psum_app _ _ _ _ hn]
    by_cases c : j = x
    · subst c; rw [if_pos rfl, if_pos rfl]
    · rw [if_neg (by omega), if_neg c]; omega
  refine ⟨by simpa using h.sl, by simp; omega, ?_, ?_, ?_, ?_⟩
  · intro z hz
    rcases List.mem_append.1 hz with q | q
    · exact h.ne z q
    · rw [List.mem_singleton.1 q]; omega
  · intro j hj
    rw [rd_setN _ _ _ _ (by rw [h.sl]; omega), e, h.se j hj]
  · intro j hj
    rw [e]
    have q := h.le j hj
    by_cases c : j = x
    · rw [if_pos c]; split <;> omega
    · rw [if_neg c]; split <;> omega
  · by_cases c : mo > psum l N (x : Int) + l[N.length].f0
    · rw [if_pos c]
      obtain ⟨j, hj, q⟩ := h.is
      refine ⟨j, hj, ?_⟩
      rw [e, if_neg (fun z => by subst z; omega)]; exact q
    · rw [if_neg c]
      exact ⟨x, hx, by rw [e, if_pos rfl]⟩
theorem even_good {l : List IY} (h : VOk l) {p : Nat} (hp : 1 ≤ p ∧ p ≤ 6) : ∀ k,
    (∀ (N S : List Int) (mo : Int) (B : List Int) (m : Int) (fd : Bool) r, PartE l p N S mo → (fd = true → BestE l p B m) → spec_l03Even_from.f l (p : Int) k N S mo B m fd = some r → r.2.2 = true ∧ BestE l p r.1 r.2.1) ∧
    (∀ (N S : List Int) (mo : Int) (x : Nat) (B : List Int) (m : Int) (fd : Bool) r, PartE l p N S mo → N.length < l.length → (fd = true → BestE l p B m) → (x < p ∨ fd = true) → spec_l03Even_from.l0 l (p : Int) k N S mo (x : Int) B m fd = some r → r.2.2 = true ∧ BestE l p r.1 r.2.1)
  | 0 => ⟨fun _ _ _ _ _ _ _ _ _ e => by simp [spec_l03Even_from.f] at e, fun _ _ _ _ _ _ _ _ _ _ _ _ e => by simp [spec_l03Even_from.l0] at e⟩
  | k + 1 => by
    obtain ⟨ih1, ih2⟩ := even_good h hp k
    have h1 := h.1
    refine ⟨?_, ?_⟩
    · intro N S mo B m fd r hP hB e
      rw [spec_l03Even_from.f] at e
      by_cases c : fd = true ∧ mo ≥ m
      · rw [if_pos c] at e
        obtain rfl := Option.some.inj e
        exact ⟨c.1, hB c.1⟩
      · rw [if_neg c] at e
        by_cases c2 : N.length = l.length
        · rw [if_pos c2, if_pos (by omega)] at e
          obtain rfl := Option.some.inj e
          exact ⟨rfl, c2, hP.ne, hP.le, hP.is⟩
        · rw [if_neg c2] at e
          exact ih2 N S mo 0 B m fd r hP (by have := hP.nl; omega) hB (.inl (by omega)) e
    · intro N S mo x B m fd r hP hn hB hx e
      rw [spec_l03Even_from.l0] at e
      by_cases c : x < p
      · have sb := psum_bd (x : Int) l N h.2
        have hy := (h.y hn).1
        have q : wrap64 (rd S (x : Int) + wrap64 (rd_T33 l (N.length : Int)).f0) = psum l N (x : Int) + l[N.length].f0 := by
          rw [rdIY hn, hP.se x (by omega), wr (n := l[N.length].f0) (by omega) (by omega), wr (by omega) (by omega)]
        rw [if_pos (by omega), if_pos ⟨by omega, by omega, hn, by omega⟩, q] at e
        have mxe : spec_l00Max.f mo (psum l N (x : Int) + l[N.length].f0) = some (if mo > psum l N (x : Int) + l[N.length].f0 then mo else psum l N (x : Int) + l[N.length].f0) := by
          unfold spec_l00Max.f; split <;> rfl
        rw [mxe, Option.bind_some, Int.toNat_natCast] at e
        obtain ⟨r1, e1, e2⟩ := Option.bind_eq_some_iff.1 e
        obtain ⟨a1, a2⟩ := ih1 _ _ _ B m fd r1 (hP.next hp.2 c hn h.2) hB e1
        by_cases z : rd S (x : Int) = 0
        · rw [if_pos z] at e2
          obtain rfl := Option.some.inj e2
          exact ⟨a1, a2⟩
        · rw [if_neg z, wr (n := (x : Int) + 1) (by omega) (by omega)] at e2
          exact ih2 N S mo (x + 1) r1.1 r1.2.1 r1.2.2 r hP hn (fun _ => a2) (.inr a1) e2
      · rw [if_neg (by omega)] at e
        obtain rfl := Option.some.inj e
        have hf := hx.resolve_left c
        exact ⟨hf, hB hf⟩
theorem even_both {l : List IY} (h : VOk l) {p : Nat} (hp : 1 ≤ p ∧ p ≤ l.length) : ∃ B m, Ev (fun k => spec_EvenPlies.f k l (p : Int)) (B, m, 0) ∧ Ev (fun k => impl_EvenPlies.f k l (p : Int)) (B, m, 0) ∧ BestE l p B m := by
  have h1 := h.1
  obtain ⟨r, s, i, _⟩ := EvenPlies_same l (p : Int) (by omega) (fun x hx => by have := (h.2 x hx).1; omega)
  obtain ⟨K, hK⟩ := s
  obtain ⟨K2, hK2⟩ := spec_yCode l true (by omega)
  have hk : spec_EvenPlies.f (K + K2) l (p : Int) = some r := hK _ (by omega)
  have hk2 : spec_l03Asked.f (K + K2) l true = some (yCode l true) := hK2 _ (by omega)
  have hd : decide (1 ≤ (p : Int) ∧ (p : Int) ≤ 6) = true := decide_eq_true (by omega)
  unfold spec_EvenPlies.f at hk
  rw [l00In_f, Option.bind_some, hd, hk2, Option.bind_some, h.code, if_pos rfl, if_pos rfl, if_neg (by omega)] at hk
  obtain ⟨q, e1, e2⟩ := Option.bind_eq_some_iff.1 hk
  obtain rfl := Option.some.inj e2
  have hP : PartE l p [] [0, 0, 0, 0, 0, 0] 0 := by
    refine ⟨rfl, by simp, by simp, fun j hj => ?_, fun j _ => by rw [psum_nil]; omega, ⟨0, by omega, psum_nil _ _⟩⟩
    rw [psum_nil]
    match j with
    | 0 | 1 | 2 | 3 | 4 | 5 => rfl
    | n + 6 => omega
  obtain ⟨_, a2⟩ := (even_good h (p := p) (by omega) (K + K2)).1 [] _ 0 [] 0 false q hP (fun z => by cases z) e1
  exact ⟨q.1, q.2.1, ⟨K, hK⟩, i, a2⟩
theorem u8p {x : Int} (h : (Lit.int .u8 x).wf = true) : 0 ≤ x ∧ x ≤ 255 := by
  simp only [Lit.wf, IntKind.min, IntKind.max, IntKind.signed, IntKind.bits, Bool.and_eq_true, decide_eq_true_eq, Bool.false_eq_true, if_false] at h
  omega
theorem psum_step {l : List IY} (h : VOk l) {B : List Int} (hb : B.length = l.length) (k : Int) {i : Nat} (hi : i < l.length) (hi2 : i < B.length) (acc : Int) (ha : acc + psum (l.drop i) (B.drop i) k = psum l B k) :
    (B[i] = k → acc + l[i].f0 ≤ 720 ∧ acc + l[i].f0 + psum (l.drop (i + 1)) (B.drop (i + 1)) k = psum l B k) ∧ (¬ B[i] = k → acc + psum (l.drop (i + 1)) (B.drop (i + 1)) k = psum l B k) := by
  rw [List.drop_eq_getElem_cons hi, List.drop_eq_getElem_cons hi2] at ha
  simp only [psum] at ha
  have sb := (psum_bd k l B h.2).2
  have sb2 := (psum_bd k (l.drop (i + 1)) (B.drop (i + 1)) (fun y hy => h.2 y (List.mem_of_mem_drop hy))).1
  have h1 := h.1
  generalize psum (l.drop (i + 1)) (B.drop (i + 1)) k = R at *
  generalize psum l B k = F at *
  refine ⟨fun c => ?_, fun c => ?_⟩
  · rw [if_pos c] at ha; exact ⟨by omega, by omega⟩
  · rw [if_neg c] at ha; omega
theorem w_succ {i : Nat} (h : i ≤ 100000) : wrap64 ((i : Int) + 1) = ((i + 1 : Nat) : Int) := by
  rw [wr (n := (i : Int) + 1) (by omega) (by omega)]; rfl
theorem w_two {i : Nat} (h : i ≤ 100000) : wrap64 (2 * (i : Int)) = ((2 * i : Nat) : Int) := by
  rw [wr (n := 2 * (i : Int)) (by omega) (by omega)]; omega
theorem w_pred {i : Nat} (h : i ≤ 100000) (h0 : ¬ i = 0) : wrap64 ((i : Int) - 1) = ((i - 1 : Nat) : Int) := by
  rw [wr (n := (i : Int) - 1) (by omega) (by omega)]; omega
section
variable {l : List IY} (h : VOk l) {p : Nat} (hp : 1 ≤ p ∧ p ≤ 6) {B : List Int} {m : Int} (hB : BestE l p B m)
include h hp hB
theorem pl_l3 (kk : Nat) (hk : kk < p) (lo all : Int) (hn : Ev (fun k => laws_FnPlies.l2 k l (p : Int) B m (mx lo (psum l B (kk : Int))) (wrap64 (all + psum l B (kk : Int))) ((kk + 1 : Nat) : Int)) true) :
    ∀ (d i : Nat) (acc : Int), i + d = l.length → 0 ≤ acc → acc + psum (l.drop i) (B.drop i) (kk : Int) = psum l B (kk : Int) → Ev (fun k => laws_FnPlies.l3 k l (p : Int) B m lo all (kk : Int) acc (i : Int)) true := by
  obtain ⟨b1, b2, b3, b4⟩ := hB
  have h1 := h.1
  intro d
  induction d with
  | zero =>
    intro i acc hi h0 ha
    have e : acc = psum l B (kk : Int) := by
      rw [List.drop_eq_nil_of_le (by omega), List.drop_eq_nil_of_le (by omega), psum_nil] at ha; omega
    subst e
    refine Ev.step (fun k => ?_) hn
    simp only [laws_FnPlies.l3]
    rw [if_neg (by omega), wr (n := (kk : Int) + 1) (by omega) (by omega)]; rfl
  | succ d ih =>
    intro i acc hi h0 ha
    have hil : i < l.length := by omega
    have hib : i < B.length := by omega
    have hy := (h.y hil).1
    have hx := b2 B[i] (List.getElem_mem _)
    have d1 : (i : Int) < (l.length : Int) := by clear ha hn; omega
    have d2 : (0 : Int) ≤ (i : Int) := by clear ha hn; omega
    have d3 : (i : Int) < (B.length : Int) := by clear ha hn; omega
    have d4 : ¬ B[i] < 0 := by clear ha hn; omega
    have d5 : ¬ B[i] ≥ (p : Int) := by clear ha hn; omega
    have d6 : wrap64 l[i].f0 = l[i].f0 := by clear ha hn; exact wr (by omega) (by omega)
    have d8 : i ≤ 100000 := by clear ha hn d6; omega
    have d9 : i + 1 + d = l.length := by clear ha hn d6; omega
    have d10 : 0 ≤ acc + l[i].f0 := by clear ha hn d6; omega
    have w1 := w_succ d8
    have rb : rd B (i : Int) = B[i] := by unfold rd; simp [List.getD, hib]
    obtain ⟨k1, k2⟩ := psum_step h b1 (kk : Int) hil hib acc ha
    clear ha
    by_cases c : B[i] = (kk : Int)
    · have d7 : wrap64 (acc + l[i].f0) = acc + l[i].f0 := wr (Int.le_trans (by decide) d10) (Int.le_trans (k1 c).1 (by decide))
      refine Ev.step (fun k => ?_) (ih (i + 1) (acc + l[i].f0) d9 d10 (k1 c).2)
      simp only [laws_FnPlies.l3, rdIY hil, rb]
      rw [if_pos d1, if_pos d2, if_pos d3, if_pos c, if_neg d4, if_neg d5, d6, d7, w1]
    · refine Ev.step (fun k => ?_) (ih (i + 1) acc (by clear k1 k2 hn; omega) h0 (k2 c))
      simp only [laws_FnPlies.l3, rb]
      rw [if_pos d1, if_pos d2, if_pos d3, if_neg c, if_neg d4, if_neg d5, w1]
theorem pl_l2 : ∀ (d kk : Nat) (lo all : Int), kk + d = p → 0 ≤ lo → (∀ j : Nat, j < kk → psum l B (j : Int) ≤ lo) → (lo = 0 ∨ ∃ j : Nat, j < kk ∧ psum l B (j : Int) = lo) → 0 ≤ all → all ≤ (kk : Int) * m → Ev (fun k => laws_FnPlies.l2 k l (p : Int) B m lo all (kk : Int)) true := by
  have hB' := hB
  obtain ⟨b1, b2, b3, b4⟩ := hB
  have h1 := h.1
  have sb := fun j : Nat => psum_bd (j : Int) l B h.2
  have hm : 0 ≤ m ∧ m ≤ 720 := by
    obtain ⟨j, hj, e⟩ := b4
    have := sb j; omega
  intro d
  induction d with
  | zero =>
    intro kk lo all hk l0 hle his a0 ha
    obtain rfl : kk = p := by omega
    obtain ⟨j, hj, e⟩ := b4
    have q1 := hle j hj
    have q2 : lo ≤ m := by
      rcases his with z | ⟨i, hi, z⟩
      · omega
      · have := b3 i hi; omega
    have hb : m * (kk : Int) ≤ 720 * 6 := Int.mul_le_mul hm.2 (by omega) (by omega) (by omega)
    have hb0 : 0 ≤ m * (kk : Int) := Int.mul_nonneg hm.1 (by omega)
    have hc : m * (kk : Int) = (kk : Int) * m := Int.mul_comm _ _
    refine Ev.step (f := fun _ => some true) (fun k => ?_) (Ev.now _)
    simp only [laws_FnPlies.l2]
    rw [if_neg (by omega), if_pos (by omega), wr (n := m * (kk : Int)) (by omega) (by omega)]
    exact congrArg some (decide_eq_true (by omega))
  | succ d ih =>
    intro kk lo all hk l0 hle his a0 ha
    have s1 := sb kk
    have q := b3 kk (by omega)
    have hmul : ((kk + 1 : Nat) : Int) * m = (kk : Int) * m + m := by
      rw [Int.natCast_add, Int.add_mul]; simp
    have hkm : (kk : Int) * m ≤ 6 * 720 := Int.mul_le_mul (by omega) hm.2 hm.1 (by omega)
    have nx := ih (kk + 1) (mx lo (psum l B (kk : Int))) (all + psum l B (kk : Int)) (by omega) (by unfold mx; split <;> omega) (by
      intro j hj
      rcases Nat.lt_or_ge j kk with g | g
      · have := hle j g; unfold mx; split <;> omega
      · obtain rfl : j = kk := by omega
        unfold mx; split <;> omega) (by
      unfold mx
      split
      · exact .inr ⟨kk, by omega, rfl⟩
      · rcases his with z | ⟨i, hi, z⟩
        · exact .inl z
        · exact .inr ⟨i, by omega, z⟩) (by omega) (by omega)
    refine Ev.step (fun k => ?_) (pl_l3 h hp hB' kk (by omega) lo all (by rw [wr (n := all + psum l B (kk : Int)) (by omega) (by omega)]; exact nx) l.length 0 0 (by omega) (by omega) (by simp))
    simp only [laws_FnPlies.l2]
    rw [if_pos (by omega)]; rfl
theorem pl_j11 : Ev (fun k => laws_FnPlies.j11 k l (p : Int) B m false) true := by
  have hb1 : 0 ≤ (0 : Int) := by omega
  have := pl_l2 h hp hB p 0 0 0 (by omega) hb1 (fun j hj => by omega) (.inl rfl) hb1 (by simp)
  refine Ev.step (fun k => ?_) this
  simp only [laws_FnPlies.j11, Bool.false_eq_true, if_false]; rfl
end
theorem pl_same : ∀ (a : List Int), a.length ≤ 100 → Ev (fun k => spec_SameNumbers.f k a a) true := by
  intro a ha
  have loop : ∀ (d i : Nat), i + d = a.length → Ev (fun k => spec_l00Same.l0 k a a (i : Int)) true := by
    intro d
    induction d with
    | zero =>
      intro i hi
      refine Ev.step (f := fun _ => some true) (fun k => ?_) (Ev.now _)
      simp only [spec_l00Same.l0]; rw [if_neg (by omega)]
    | succ d ih =>
      intro i hi
      refine Ev.step (fun k => ?_) (ih (i + 1) (by omega))
      simp only [spec_l00Same.l0, if_true]
      rw [if_pos (by omega), if_pos (by omega), if_pos (by omega), wr (n := (i : Int) + 1) (by omega) (by omega)]; rfl
  unfold spec_SameNumbers.f spec_l00Same.f
  simp only [if_true]
  exact Ev.bind (loop a.length 0 (by omega)) (Ev.now _)
theorem pl_pairs (a : List IP) (ha : a.length ≤ 100) : Ev (fun k => spec_SamePairs.f k a a) true := by
  have loop : ∀ (d i : Nat), i + d = a.length → Ev (fun k => spec_SamePairs.l0 k a a (i : Int)) true := by
    intro d
    induction d with
    | zero =>
      intro i hi
      refine Ev.step (f := fun _ => some true) (fun k => ?_) (Ev.now _)
      simp only [spec_SamePairs.l0]; rw [if_neg (by omega)]
    | succ d ih =>
      intro i hi
      refine Ev.step (fun k => ?_) (ih (i + 1) (by omega))
      simp only [spec_SamePairs.l0, beq_self_eq_true, Bool.not_true, Bool.or_false, Bool.false_eq_true, if_false]
      rw [if_pos (by omega), if_pos (by omega), if_pos (by omega), wr (n := (i : Int) + 1) (by omega) (by omega)]; rfl
  unfold spec_SamePairs.f
  simp only [if_true]
  exact loop a.length 0 (by omega)
theorem pl_l1z {l : List IY} (h : VOk l) (h0 : 0 < l.length) {s : List Int} (hs : bytesL s) (t : Int) : Ev (fun k => laws_FnPlies.l1 k s l t (l.length : Int)) true := by
  have h1 := h.1
  obtain ⟨q, e, q0, q1⟩ := p6pick_f s hs (l.length : Int) (by omega)
  obtain ⟨n, rfl⟩ := Int.eq_ofNat_of_zero_le q0
  have hn : 1 ≤ 1 + n ∧ 1 + n ≤ l.length := by omega
  have hn6 : 1 ≤ 1 + n ∧ 1 + n ≤ 6 := by omega
  obtain ⟨B, m, f1, f2, f3⟩ := even_both h hn
  have w : wrap64 (1 + (n : Int)) = ((1 + n : Nat) : Int) := by rw [wr (by omega) (by omega)]; omega
  have g := pl_j11 h hn6 f3
  have hBl := f3.1
  have hne : ((B.length : Int) != (l.length : Int)) = false := by rw [hBl]; exact bne_self_eq_false _
  have c0 : ¬ ((l.length : Int) < (l.length : Int)) := by omega
  have hb6 : B.length ≤ 100 := by omega
  generalize 1 + n = p at *
  have sm := pl_same B hb6
  refine Ev.step (f := fun k => (impl_EvenPlies.f k l (p : Int)).bind fun bt368 => ((spec_EvenPlies.f k l (p : Int)).bind fun bt373 => (if bt368.2.2 = bt373.2.2 then (if bt368.2.2 = 0 then ((spec_SameNumbers.f k bt368.1 bt373.1).bind fun t378 => (if t378 = true then (if bt368.2.1 = bt373.2.1 then (laws_FnPlies.j11 k l (p : Int) bt373.1 bt373.2.1 ((bt373.1.length : Int) != (l.length : Int))) else (laws_FnPlies.j11 k l (p : Int) bt373.1 bt373.2.1 true)) else (laws_FnPlies.j11 k l (p : Int) bt373.1 bt373.2.1 true))) else (laws_FnPlies.j11 k l (p : Int) bt373.1 bt373.2.1 true)) else (laws_FnPlies.j11 k l (p : Int) bt373.1 bt373.2.1 true)))) (fun k => ?_) (Ev.bind f2 (Ev.bind f1 ?_))
  · rw [laws_FnPlies.l1, if_neg c0, e, Option.bind_some, w]
  · simp only [if_true, hne]
    exact Ev.bind sm (by simp only [if_true]; exact g)
section
variable {l : List IY} (h : VOk l) (h0 : 0 < l.length) {s : List Int} (hs : bytesL s)
include h h0 hs
theorem pl_l1 {t : Nat} (hT : Thin l t l.length) : ∀ (d i : Nat), i + d = l.length → Ev (fun k => laws_FnPlies.l1 k s l (t : Int) (i : Int)) true := by
  have h1 := h.1
  obtain ⟨ht, hall⟩ := hT
  have yt := h.y ht
  intro d
  induction d with
  | zero =>
    intro i hi
    obtain rfl : i = l.length := by omega
    exact pl_l1z h h0 hs (t : Int)
  | succ d ih =>
    intro i hi
    have hil : i < l.length := by omega
    have yi := h.y hil
    have q := hall i hil hil
    refine Ev.step (fun k => ?_) (ih (i + 1) (by omega))
    simp only [laws_FnPlies.l1, rdIY hil, rdIY ht, wp yi.1 yt.2.2, wp yt.1 yi.2.2]
    rw [if_pos (by omega), if_pos (by omega), if_pos (by omega), if_pos (by omega), if_neg (by omega), wr (n := (i : Int) + 1) (by omega) (by omega)]
    by_cases c : l[i].f0 * l[t].f2 = l[t].f0 * l[i].f2
    · rw [if_pos c, if_neg (by have := q.2 c; omega)]; rfl
    · rw [if_neg c]; rfl
end
theorem pl_j8 {l : List IY} (h : VOk l) {s : List Int} (hs : bytesL s) : Ev (fun k => laws_FnPlies.j8 k s l false) true := by
  have h1 := h.1
  by_cases h0 : (l.length : Int) = 0
  · have hw : Ev (fun k => impl_WeakestOf.f k l) (0, 0, 0, 6) := by
      unfold impl_WeakestOf.f
      simp only [impl_yCode l _ (show (l.length : Int) ≤ 140737488351232 by omega), Option.bind_some, h.code, if_true, if_pos h0]
      exact Ev.now _
    refine Ev.step (fun k => by simp only [laws_FnPlies.j8, Bool.false_eq_true, if_false, if_pos h0]; rfl) (Ev.bind hw ?_)
    exact Ev.now _
  · obtain ⟨u, a, b, f1, f2, f3⟩ := weak_both h (by omega)
    refine Ev.step (fun k => by simp only [laws_FnPlies.j8, Bool.false_eq_true, if_false, if_neg h0]; rfl) (Ev.bind f2 (Ev.bind f1 ?_))
    simp only [if_true, beq_self_eq_true, Bool.not_true, Bool.or_false]
    refine Ev.step (fun k => by simp only [laws_FnPlies.j9, Bool.false_eq_true, if_false]; rfl) ?_
    exact pl_l1 h (by omega) hs f3 l.length 0 (by omega)
theorem pl_two {y z : IY} (hy : YOk y) (hz : YOk z) : ∃ c, Ev (fun k => impl_BalanceTurns.f k [y, z]) (c, ab (y.f1 - z.f1), 0) := by
  have hV : VOk [y, z] := ⟨by simp, fun x hx => by
    simp only [List.mem_cons, List.not_mem_nil, or_false] at hx
    rcases hx with rfl | rfl
    · exact hy
    · exact hz⟩
  obtain ⟨c, _, f2, _, _⟩ := balance_both hV (by simp)
  obtain ⟨c, f1, f2, hc, hall⟩ := balance_both hV (by simp)
  obtain ⟨d, g⟩ := balance_two y z (by have := hy.2.1; omega) (by have := hz.2.1; omega)
  have s : Ev (fun k => spec_BalanceTurns.f k [y, z]) (d, ab (y.f1 - z.f1), 0) := by
    unfold spec_BalanceTurns.f
    refine Ev.bind (spec_pCode [y, z] 0 (by simp)) ?_
    rw [hV.pc (by omega), if_pos (by simp)]
    simp only [if_true]
    exact Ev.bind g (Ev.now _)
  have e := ev_fun f1 s
  rw [e] at f2
  exact ⟨d, f2⟩
theorem pl_add {a b : Int} (ha : 0 ≤ a ∧ a ≤ 40000) (hb : 0 ≤ b ∧ b ≤ 4000) : wrap64 (a + b) = a + b := wr (by omega) (by omega)
/-- Neighbours. -/
def nbQ (n : Nat) : List (Nat × Nat) := (List.range n).map fun j => (2 * j, 2 * j + 1)
theorem plain_range : ∀ (n s : Nat), plainP (List.range' s (2 * n)) = (List.range n).map fun j => (s + 2 * j, s + 2 * j + 1)
  | 0, s => rfl
  | n + 1, s => by
    have e : 2 * (n + 1) = 2 * n + 1 + 1 := by omega
    rw [e, List.range'_succ, List.range'_succ]
    simp only [plainP]
    rw [plain_range n (s + 1 + 1), List.range_succ_eq_map, List.map_cons, List.map_map]
    congr 1
    refine List.map_congr_left fun j _ => ?_
    simp only [Function.comp, Prod.mk.injEq]
    omega
theorem plain_nb (n : Nat) : plainP (List.range (2 * n)) = nbQ n := by
  rw [List.range_eq_range', plain_range]
  unfold nbQ
  refine List.map_congr_left fun j _ => ?_
  simp
theorem sumP_take (l : List IY) (Q : List (Nat × Nat)) (i : Nat) (hi : i < Q.length) : sumP l (Q.take (i + 1)) = sumP l (Q.take i) + rs l Q[i].1 Q[i].2 := by
  rw [List.take_succ_eq_append_getElem hi, sumP_app]
  simp [sumP]
section
variable {l E : List IY} (h : VOk l) (hE : VOk E) {s : List Int} (hs : bytesL s) {Q : List (Nat × Nat)} (hQ : Good E.length Q []) (hm : sumP E Q ≤ sumP E (plainP (List.range E.length)))
include h hE hs hQ hm
theorem pl_l0 : ∀ (d i : Nat) (U : List Bool), i + d = Q.length → U.length = E.length → (∀ j, ∀ hj : j < U.length, U[j] = true ↔ j ∈ flatP (Q.take i)) →
    Ev (fun k => laws_FnPlies.l0 k s l E (upP Q) (sumP E Q) U (sumP E (Q.take i)) (sumP E ((nbQ Q.length).take i)) (i : Int)) true := by
  have hln := hQ.ln
  have h6 := hE.1
  have hn : E.length = 2 * Q.length := by simp at hln; omega
  have oT := hE.okT
  have bds : ∀ (P : List (Nat × Nat)), (∀ q ∈ P, q.1 < E.length ∧ q.2 < E.length) → P.length ≤ 10 → 0 ≤ sumP E P ∧ sumP E P ≤ 40000 := fun P hP h10 => by
    have := sumP_bd E oT P hP; omega
  have bq : ∀ q ∈ Q, q.1 < E.length ∧ q.2 < E.length := fun q hq => by have := hQ.lo q hq; omega
  have bn : ∀ q ∈ nbQ Q.length, q.1 < E.length ∧ q.2 < E.length := fun q hq => by
    obtain ⟨j, hj, rfl⟩ := List.mem_map.1 hq
    have := List.mem_range.1 hj
    simp only; omega
  have nbl : (nbQ Q.length).length = Q.length := by simp [nbQ]
  intro d
  induction d with
  | zero =>
    intro i U hi hU hu
    obtain rfl : i = Q.length := by omega
    have e1 : Q.take Q.length = Q := List.take_length
    have e2 : (nbQ Q.length).take Q.length = nbQ Q.length := List.take_of_length_le (by omega)
    rw [e1, e2]
    rw [hn, plain_nb] at hm
    refine Ev.step (fun k => ?_) (pl_j8 h hs)
    simp only [laws_FnPlies.l0, upP_len]
    rw [if_neg (by omega), if_pos trivial, decide_eq_false (show ¬ sumP E (nbQ Q.length) < sumP E Q by omega)]
  | succ d ih =>
    intro i U hi hU hu
    have hiQ : i < Q.length := by omega
    have hiN : i < (nbQ Q.length).length := by omega
    obtain ⟨lo1, lo2⟩ := hQ.lo Q[i] (List.getElem_mem _)
    obtain ⟨a, ea⟩ : ∃ a, a = Q[i].1 := ⟨_, rfl⟩
    obtain ⟨b, eb⟩ : ∃ b, b = Q[i].2 := ⟨_, rfl⟩
    rw [← ea, ← eb] at lo1
    rw [← eb] at lo2
    have eQ : Q[i] = (a, b) := by rw [ea, eb]
    have rQ : rd_T41 (upP Q) (i : Int) = (⟨(a : Int), (b : Int)⟩ : IP) := by
      rw [rdIP (by rw [upP_len]; exact hiQ)]
      simp [upP, toP, eQ]
    -- not used yet
    have nd := hQ.nd
    rw [List.append_nil, ← List.take_append_drop i Q, flatP_app, List.drop_eq_getElem_cons hiQ, eQ] at nd
    have e3 : flatP ((a, b) :: Q.drop (i + 1)) = a :: b :: flatP (Q.drop (i + 1)) := by simp [flatP]
    rw [e3, List.nodup_append] at nd
    have na : a ∉ flatP (Q.take i) := fun z => nd.2.2 a z a (by simp) rfl
    have nb : b ∉ flatP (Q.take i) := fun z => nd.2.2 b z b (by simp) rfl
    have haU : a < U.length := by omega
    have hbU : b < U.length := by omega
    have ua : U[a] = false := by
      cases q : U[a] with
      | false => rfl
      | true => exact absurd ((hu a haU).1 q) na
    have ub : U[b] = false := by
      cases q : U[b] with
      | false => rfl
      | true => exact absurd ((hu b hbU).1 q) nb
    have ra : rdOf false U (a : Int) = false := by unfold rdOf; simp [List.getD, haU, ua]
    have rb : rdOf false U (b : Int) = false := by unfold rdOf; simp [List.getD, hbU, ub]
    have haE : a < E.length := by omega
    have hbE : b < E.length := by omega
    have h2i : 2 * i < E.length := by omega
    have h2j : 2 * i + 1 < E.length := by omega
    have lt10 : (Q.take i).length ≤ 10 ∧ ((nbQ Q.length).take i).length ≤ 10 := by rw [List.length_take, List.length_take]; omega
    have d1 : (0 : Int) ≤ (a : Int) := by omega
    have d2 : (a : Int) < (U.length : Int) := by omega
    have d3 : (0 : Int) ≤ (b : Int) := by omega
    have d4 : (b : Int) < (U.length : Int) := by omega
    have d5 : (a : Int) < (E.length : Int) := by omega
    have d6 : (b : Int) < (E.length : Int) := by omega
    have d7 : (0 : Int) ≤ ((2 * i : Nat) : Int) := by omega
    have d8 : ((2 * i : Nat) : Int) < (E.length : Int) := by omega
    have d9 : (0 : Int) ≤ ((2 * i + 1 : Nat) : Int) := by omega
    have d10 : ((2 * i + 1 : Nat) : Int) < (E.length : Int) := by omega
    have d11 : (i : Int) < (Q.length : Int) := by omega
    have d12 : (0 : Int) ≤ (i : Int) := by omega
    have d13 : ¬ (a : Int) < 0 := by omega
    have d14 : ¬ (b : Int) ≤ (a : Int) := by omega
    have d15 : ¬ (b : Int) ≥ (E.length : Int) := by omega
    have d16 : i ≤ 100000 := by omega
    have d17 : 2 * i ≤ 100000 := by omega
    have d18 : i + 1 + d = Q.length := by omega
    have w0 := w_succ d16
    have w1 := w_two d16
    have w2 := w_succ d17
    obtain ⟨c1, f1⟩ := pl_two (hE.y haE) (hE.y hbE)
    obtain ⟨c2, f2⟩ := pl_two (hE.y h2i) (hE.y h2j)
    have t1 : rs E a b = ab (E[a].f1 - E[b].f1) := by unfold rs tw; rw [rdIY haE, rdIY hbE]
    have t2 : rs E (2 * i) (2 * i + 1) = ab (E[2 * i].f1 - E[2 * i + 1].f1) := by unfold rs tw; rw [rdIY h2i, rdIY h2j]
    rw [← t1] at f1
    rw [← t2] at f2
    clear t1 t2
    have W3 := Aside0.mk (show wrap64 (sumP E (Q.take i) + rs E a b) = sumP E (Q.take (i + 1)) from by
      rw [sumP_take E Q i hiQ, eQ]
      exact pl_add (bds (Q.take i) (fun q hq => bq q (List.mem_of_mem_take hq)) lt10.1) (rs_bd E oT haE hbE))
    have W4 := Aside0.mk (show wrap64 (sumP E ((nbQ Q.length).take i) + rs E (2 * i) (2 * i + 1)) = sumP E ((nbQ Q.length).take (i + 1)) from by
      have z : (nbQ Q.length)[i] = (2 * i, 2 * i + 1) := by simp [nbQ]
      rw [sumP_take E _ i hiN, z]
      exact pl_add (bds ((nbQ Q.length).take i) (fun q hq => bn q (List.mem_of_mem_take hq)) lt10.2) (rs_bd E oT h2i h2j))
    have nx := ih (i + 1) ((U.set a true).set b true) d18 (by simpa using hU) (by
      intro j hj
      simp only [List.length_set] at hj
      rw [List.take_succ_eq_append_getElem hiQ, flatP_app, eQ, List.mem_append]
      have e4 : flatP [(a, b)] = [a, b] := rfl
      rw [e4, List.getElem_set]
      by_cases q1 : b = j
      · rw [if_pos q1]; subst q1; simp
      · rw [if_neg q1, List.getElem_set]
        by_cases q2 : a = j
        · rw [if_pos q2]; subst q2; simp
        · rw [if_neg q2, hu j hj]
          simp only [List.mem_cons, List.not_mem_nil, or_false]
          constructor
          · exact Or.inl
          · rintro (z | z | z)
            · exact z
            · exact absurd z.symm q2
            · exact absurd z.symm q1)
    have step7 : Ev (fun k => laws_FnPlies.j7 k s l E (upP Q) (sumP E Q) U (sumP E (Q.take i)) (sumP E ((nbQ Q.length).take i)) (i : Int) (a : Int) (b : Int) false) true := by
      refine Ev.step (fun k => by
        simp only [laws_FnPlies.j7, Bool.false_eq_true, if_false, w1, w2, rdIY haE, rdIY hbE, rdIY h2i, rdIY h2j]
        rw [if_pos d1, if_pos d2, if_pos d3, if_pos d4, if_pos d5, if_pos d6]) (Ev.bind f1 ?_)
      simp only [if_pos d7, if_pos d8, if_pos d9, if_pos d10]
      refine Ev.bind f2 ?_
      simp only [if_true, w0, W3.out, W4.out, Int.toNat_natCast]
      exact nx
    refine Ev.step (fun k => ?_) step7
    simp only [laws_FnPlies.l0, upP_len, rQ, ra, rb, Bool.false_eq_true, if_false]
    rw [if_pos d11, if_pos d12, if_neg d13, if_neg d14, if_neg d15, if_pos d1, if_pos d2, if_pos d3, if_pos d4]
    by_cases g : i = 0
    · subst g
      rw [if_neg (show ¬ ((0 : Nat) : Int) > 0 by decide)]
    · have hj : i - 1 < Q.length := Nat.lt_of_le_of_lt (Nat.sub_le _ _) hiQ
      have g1 : (i : Int) > 0 := Int.ofNat_lt.2 (Nat.pos_of_ne_zero g)
      have g2 : (0 : Int) ≤ ((i - 1 : Nat) : Int) := Int.natCast_nonneg _
      have g3 : ((i - 1 : Nat) : Int) < (Q.length : Int) := Int.ofNat_lt.2 hj
      have w5 := w_pred d16 g
      have rQ2 : rd_T41 (upP Q) ((i - 1 : Nat) : Int) = toP Q[i - 1] := by
        rw [rdIP (by rw [upP_len]; exact hj)]
        simp [upP]
      have pw := List.pairwise_iff_getElem.1 hQ.pw (i - 1) i hj hiQ (Nat.sub_lt (Nat.pos_of_ne_zero g) (by decide))
      rw [eQ] at pw
      rw [if_pos g1, w5, if_pos g2, if_pos g3, rQ2]
      have : decide ((a : Int) ≤ (toP Q[i - 1]).f0) = false := decide_eq_false (Int.not_le.2 (Int.ofNat_lt.2 pw))
      rw [this]
end
theorem pl_j4 {l E : List IY} (h : VOk l) (hE : VOk E) (h2 : E.length % 2 = 0) {s : List Int} (hs : bytesL s) : Ev (fun k => laws_FnPlies.j4 k s l E) true := by
  have h6 := hE.1
  obtain ⟨Q, m, f1, f2, f3, f4, f5⟩ := match_both hE h2
  subst f4
  have hln := f3.ln
  have hn : E.length = 2 * Q.length := by simp at hln; omega
  refine Ev.step (fun k => by simp only [laws_FnPlies.j4]; rfl) (Ev.bind f2 (Ev.bind f1 ?_))
  simp only [if_true]
  refine Ev.bind (pl_pairs (upP Q) (by rw [upP_len]; omega)) ?_
  simp only [if_true]
  have e : ((wrap64 (2 * ((upP Q).length : Int))) != (E.length : Int)) = false := by
    rw [upP_len, wr (by omega) (by omega), hn]
    rw [show ((2 * Q.length : Nat) : Int) = 2 * (Q.length : Int) by omega]
    simp
  rw [e]
  have q0 : (0 : Int) ≤ (E.length : Int) := by omega
  have q1 : E.length ≤ 281474976710656 := by omega
  refine Ev.step (fun k => by simp only [laws_FnPlies.j5, Bool.false_eq_true, if_false, if_pos q0, Int.toNat_natCast, if_pos q1]; rfl) ?_
  have := pl_l0 h hE hs f3 f5 Q.length 0 (List.replicate E.length false) (by omega) (by simp) (by intro j hj; simp [flatP])
  simpa [sumP] using this
theorem pl_j3 {l : List IY} (h : VOk l) {s : List Int} (hs : bytesL s) : Ev (fun k => laws_FnPlies.j3 k s l) true := by
  have h6 := h.1
  by_cases c : ((l.length : Int) % 2) = 1
  · have hd : VOk (l.drop 1) := ⟨by rw [List.length_drop]; omega, fun y hy => h.2 y (List.mem_of_mem_drop hy)⟩
    refine Ev.step (fun k => ?_) (pl_j4 h hd (by rw [List.length_drop]; omega) hs)
    simp only [laws_FnPlies.j3]
    rw [if_pos c, if_pos (by omega)]
  · refine Ev.step (fun k => ?_) (pl_j4 h h (by omega) hs)
    simp only [laws_FnPlies.j3]
    rw [if_neg c]
theorem pl_j2 {l : List IY} (h : VOk l) (h2 : 2 ≤ l.length) {s : List Int} (hs : bytesL s) {t : Int} (ht : -2000 ≤ t ∧ t ≤ 2000) : Ev (fun k => laws_FnPlies.j2 k s l t false) true := by
  obtain ⟨a, c, _, x, y, z, q, f1, f2, f3, f4, _, g1, g2⟩ := ply_both h h2 ht
  refine Ev.step (fun k => by simp only [laws_FnPlies.j2, Bool.false_eq_true, if_false]; rfl) (Ev.bind f2 (Ev.bind f1 (Ev.bind f4 (Ev.bind f3 ?_))))
  simp only [if_true, beq_self_eq_true, Bool.not_true, Bool.or_false, Bool.false_eq_true, if_false]
  by_cases c0 : c = 0
  · by_cases q0 : q = 0
    · obtain ⟨e1, e2⟩ := g1 c0 q0
      simp only [if_pos c0, if_pos q0, if_pos e1, if_pos e2]
      exact pl_j3 h hs
    · simp only [if_pos c0, if_neg q0]; exact pl_j3 h hs
  · have e := g2 c0
    simp only [if_neg c0, if_pos e]; exact pl_j3 h hs
theorem pl_j0 {c s : List Int} (hc : bytesL c) (hs : bytesL s) : Ev (fun k => laws_FnPlies.j0 k c s false) true := by
  obtain ⟨l, f, h⟩ := yarns_ev c hc
  obtain ⟨v, e, v0, v1⟩ := p6pick_f s hs 300 (by omega)
  have w : wrap64 (v - 150) = v - 150 := wr (by omega) (by omega)
  have ht : -2000 ≤ v - 150 ∧ v - 150 ≤ 2000 := by omega
  refine Ev.step (fun k => by simp only [laws_FnPlies.j0, Bool.false_eq_true, if_false, e, Option.bind_some, w]; rfl) (Ev.bind f ?_)
  obtain ⟨r1, r2⟩ := rest_both h ht
  have h6 := h.1
  by_cases h2 : 2 ≤ l.length
  · obtain ⟨b, b1, b2, hb, hall⟩ := balance_both h h2
    rw [if_pos h2] at r1 r2
    refine Ev.bind b2 (Ev.bind b1 (Ev.bind r2 (Ev.bind r1 ?_)))
    simp only [if_true]
    have z : (((0 : Int) == 0) != (decide ((l.length : Int) ≥ 2))) = false := by
      rw [decide_eq_true (show (l.length : Int) ≥ 2 by omega)]; rfl
    rw [z]
    simp only [Bool.false_eq_true, if_false]
    obtain ⟨r3, r4⟩ := rest_both h hb
    rw [if_pos h2] at r4
    refine Ev.step (fun k => by simp only [laws_FnPlies.j1, Bool.false_eq_true, if_false, if_true]; rfl) (Ev.bind r4 ?_)
    simp only [if_true]
    have z2 : decide (restT l (v - 150) < restT l b) = false := decide_eq_false (by have := hall (v - 150) (by omega) (by omega); omega)
    rw [z2]
    exact pl_j2 h h2 hs ht
  · obtain ⟨b1, b2⟩ := balance_few h h2
    rw [if_neg h2] at r1 r2
    refine Ev.bind b2 (Ev.bind b1 (Ev.bind r2 (Ev.bind r1 ?_)))
    simp only [if_true]
    have z : (((4 : Int) == 0) != (decide ((l.length : Int) ≥ 2))) = false := by
      rw [decide_eq_false (show ¬ (l.length : Int) ≥ 2 by omega)]; rfl
    have z4 : ¬ ((4 : Int) = 0) := by omega
    have z5 : ((4 : Int) != 4) = false := rfl
    rw [z, z5]
    simp only [Bool.false_eq_true, if_false, if_neg z4]
    refine Ev.step (fun k => by simp only [laws_FnPlies.j1, Bool.false_eq_true, if_false, if_neg z4]; rfl) ?_
    exact pl_j3 h hs
theorem FnPlies : laws_FnPlies.Pure := by
  intro c s ⟨hcl, hc⟩ ⟨hsl, hs⟩
  refine Ev.rounds ?_
  unfold laws_FnPlies.f
  simp only [f6big_f, Option.bind_some]
  have stop : Ev (fun k => laws_FnPlies.j0 k c s true) true := Ev.step (f := fun _ => some true) (fun k => by simp only [laws_FnPlies.j0, if_true]) (Ev.now _)
  by_cases hL : (c.length : Int) > 4096
  · simp only [decide_eq_true hL, if_true]; exact stop
  · simp only [decide_eq_false hL, Bool.false_eq_true, if_false]
    by_cases hM : (s.length : Int) > 4096
    · simp only [decide_eq_true hM]; exact stop
    · simp only [decide_eq_false hM]
      exact pl_j0 ⟨by omega, fun x hx => u8p (hc x hx)⟩ ⟨by omega, fun x hx => u8p (hs x hx)⟩
end Go.Proofs.Ythfanjdbemoaaaa.Pure
