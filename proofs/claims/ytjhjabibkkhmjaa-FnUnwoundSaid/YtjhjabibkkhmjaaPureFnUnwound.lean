/- The law FnUnwound over numbers and lists: strands come off in the order that is told, and no fewer reels are enough; no conditions. -/
import Derived.Test.YtjhjabibkkhmjaaXFnUnwoundx7
namespace Go.Proofs.Ytjhjabibkkhmjaa.Pure
open Go.RowKit Go.Proofs.Ytjhjabibkkhmjaa.XFnUnwound Go.Proofs.YtjhjabibkkhmjaaW.PrintWords Go.Proofs.YtjhjabibkkhmjaaW.PrintLast
set_option linter.unusedVariables false
set_option linter.unusedSimpArgs false
theorem wr {n : Int} (h0 : -9223372036854775808 ≤ n) (h1 : n ≤ 9223372036854775807) : wrap64 n = n := by
  unfold wrap64; omega
theorem wf64 {a : Int} (h : (Lit.int .i64 a).wf = true) : -9223372036854775808 ≤ a ∧ a ≤ 9223372036854775807 := by
  simp only [Lit.wf, IntKind.min, IntKind.max, IntKind.signed, IntKind.bits, Bool.and_eq_true, decide_eq_true_eq, if_true] at h
  omega
theorem ev_id {α : Type} {g : Nat → Option α} {r s : α} (h : Ev g r) (e : r = s) : Ev g s := e ▸ h
theorem ev_const {α : Type} {o : Option α} {r : α} (h : o = some r) : Ev (fun _ => o) r := ⟨0, fun _ _ => h⟩
theorem ev_fun {α : Type} {g : Nat → Option α} {r s : α} (h : Ev g r) (k : Ev g s) : r = s := by
  obtain ⟨a, h⟩ := h
  obtain ⟨b, k⟩ := k
  have x := h (max a b) (by omega)
  have y := k (max a b) (by omega)
  rw [x] at y; exact Option.some.inj y
/-- Both come to one answer. -/
def Same {α : Type} (g f : Nat → Option α) : Prop := ∃ r, Ev g r ∧ Ev f r
theorem Same.step {α : Type} {g f g' f' : Nat → Option α} (hg : ∀ k, g (k + 1) = g' k) (hf : ∀ k, f (k + 1) = f' k) (h : Same g' f') : Same g f := by
  obtain ⟨r, a, b⟩ := h
  exact ⟨r, Ev.step hg a, Ev.step hf b⟩
theorem Same.left {α : Type} {g f g' : Nat → Option α} (hg : ∀ k, g (k + 1) = g' k) (h : Same g' f) : Same g f := by
  obtain ⟨r, a, b⟩ := h
  exact ⟨r, Ev.step hg a, b⟩
theorem Same.right {α : Type} {g f f' : Nat → Option α} (hf : ∀ k, f (k + 1) = f' k) (h : Same g f') : Same g f := by
  obtain ⟨r, a, b⟩ := h
  exact ⟨r, a, Ev.step hf b⟩
theorem Same.now {α : Type} (r : α) : Same (fun _ => some r) (fun _ => some r) := ⟨r, Ev.now r, Ev.now r⟩
theorem if_dec {α : Type} {p : Prop} [Decidable p] (a b : α) : (if decide p = true then a else b) = if p then a else b := by
  by_cases h : p <;> simp [h]
theorem w00 : wrap64 0 = 0 := wr (by omega) (by omega)
theorem rd_lt {l : List Int} {i : Nat} (h : i < l.length) : rd l (i : Int) = l[i] := by
  unfold rd; simp [List.getD, h]
theorem l00In_f (a b c : Int) : spec_l00In.f a b c = some (decide (b ≤ a ∧ a ≤ c)) := by
  unfold spec_l00In.f
  by_cases h : b ≤ a <;> simp [h]
theorem within_f (a b c : Int) : impl_within.f a b c = some (decide (b ≤ a ∧ a ≤ c)) := by
  unfold impl_within.f
  by_cases h : b ≤ a <;> simp [h]
theorem allO_some {α : Type} (p : α → Bool) : ∀ l : List α, allO (fun x => some (p x)) l = some (l.all p)
  | [] => rfl
  | x :: l => by
    simp only [allO, Option.bind_some, List.all_cons, allO_some p l]
    cases p x <;> simp
theorem allG_some {α : Type} (p : α → Bool) (l : List α) (h : (l.length : Int) ≤ 4611686018427387904) : allG l (fun x => some (p x)) = some (l.all p) := by
  unfold allG; rw [if_pos h, allO_some]
def isR (x : Int) : Bool := decide (0 ≤ x ∧ x ≤ 7)
/-- The code for the numbers of reels. -/
def toldC (l : List Int) : Int := if (l.length : Int) > 8 then 3 else if l.all isR = true then 0 else 2
theorem told_loop (l : List Int) (hl : (l.length : Int) ≤ 140737488351232) (d : Nat) : ∀ (i : Nat), i + d = l.length → Ev (fun k => spec_l04Told.l0 k l (i : Int)) (if (l.drop i).all isR = true then 0 else 2) := by
  induction d with
  | zero =>
    intro i hi
    refine Ev.step (f := fun _ => some 0) (fun k => ?_) (ev_id (Ev.now _) ?_)
    · simp only [spec_l04Told.l0]; rw [if_neg (by omega)]
    · rw [List.drop_eq_nil_of_le (by omega)]; rfl
  | succ d ih =>
    intro i hi
    have hil : i < l.length := by omega
    rw [List.drop_eq_getElem_cons hil, List.all_cons]
    by_cases h1 : 0 ≤ l[i] ∧ l[i] ≤ 7
    · refine Ev.step (fun k => ?_) (ev_id (ih (i + 1) (by omega)) (by rw [show isR l[i] = true from decide_eq_true h1, Bool.true_and]))
      simp only [spec_l04Told.l0, spec_l04Number.f, rd_lt hil, l00In_f, Option.bind_some, if_dec]
      rw [if_pos (by omega), if_pos (by omega), if_pos h1, wr (n := (i : Int) + 1) (by omega) (by omega)]; rfl
    · refine Ev.step (f := fun _ => some 2) (fun k => ?_) (ev_id (Ev.now _) (by rw [show isR l[i] = false from decide_eq_false h1, Bool.false_and]; rfl))
      simp only [spec_l04Told.l0, spec_l04Number.f, rd_lt hil, l00In_f, Option.bind_some, if_dec]
      rw [if_pos (by omega), if_pos (by omega), if_neg h1]
theorem told_ev (l : List Int) (hl : (l.length : Int) ≤ 140737488351232) : Ev (fun k => spec_l04Told.f k l) (toldC l) := by
  unfold spec_l04Told.f toldC
  by_cases h : (l.length : Int) > 8
  · simp only [if_pos h]; exact Ev.now _
  · simp only [if_neg h]
    have := told_loop l hl l.length 0 (by omega)
    simpa using this
theorem isR_f (x : Int) : impl_isReel.f x = some (isR x) := by
  unfold impl_isReel.f isR; rw [within_f]; rfl
theorem unwindCode_f (l : List Int) (hl : (l.length : Int) ≤ 140737488351232) : impl_unwindCode.f l = some (toldC l) := by
  unfold impl_unwindCode.f toldC
  by_cases h : (l.length : Int) > 8
  · simp only [if_pos h]
  · simp only [if_neg h]
    have e : (fun x_ : Int => impl_isReel.f x_) = fun x => some (isR x) := funext isR_f
    show (allG l _).bind _ = _
    rw [e, allG_some isR l (by omega)]
    cases l.all isR <;> rfl
/-- All of so many numbers, each once. -/
def isOrd (n : Nat) (l : List Int) : Bool := decide (l.length = n ∧ (∀ x ∈ l, 0 ≤ x ∧ x ≤ (n : Int) - 1) ∧ l.Nodup)
theorem has_loop (l : List Int) (x : Int) (hl : (l.length : Int) ≤ 140737488351232) (d : Nat) : ∀ (i : Nat), i + d = l.length → Ev (fun k => spec_l00Has.l0 k l x (i : Int)) (decide (x ∈ l.drop i)) := by
  induction d with
  | zero =>
    intro i hi
    refine Ev.step (f := fun _ => some false) (fun k => ?_) (ev_id (Ev.now _) ?_)
    · simp only [spec_l00Has.l0]; rw [if_neg (by omega)]
    · rw [List.drop_eq_nil_of_le (by omega)]; simp
  | succ d ih =>
    intro i hi
    have hil : i < l.length := by omega
    rw [List.drop_eq_getElem_cons hil]
    by_cases h : l[i] = x
    · refine Ev.step (f := fun _ => some true) (fun k => ?_) (ev_id (Ev.now _) (by simp [h]))
      simp only [spec_l00Has.l0, rd_lt hil]
      rw [if_pos (by omega), if_pos (by omega), if_pos h]
    · refine Ev.step (fun k => ?_) (ev_id (ih (i + 1) (by omega)) (by rw [decide_eq_decide, List.mem_cons]; exact ⟨Or.inr, fun z => z.resolve_left (fun e => h e.symm)⟩))
      simp only [spec_l00Has.l0, rd_lt hil]
      rw [if_pos (by omega), if_pos (by omega), if_neg h, wr (n := (i : Int) + 1) (by omega) (by omega)]; rfl
theorem has_ev (l : List Int) (x : Int) (hl : (l.length : Int) ≤ 140737488351232) : Ev (fun k => spec_l00Has.f k l x) (decide (x ∈ l)) := by
  unfold spec_l00Has.f
  have := has_loop l x hl l.length 0 (by omega)
  simpa using this
theorem take_snoc (l : List Int) {i : Nat} (h : i < l.length) : l.take (i + 1) = l.take i ++ [l[i]] := by
  rw [List.take_add_one, List.getElem?_eq_getElem h]; rfl
theorem each_loop (n : Nat) (hn : (n : Int) ≤ 1048576) (l : List Int) (hl : (l.length : Int) ≤ 140737488351232) (d : Nat) : ∀ (i : Nat), i + d = l.length → (∀ x ∈ l.take i, 0 ≤ x ∧ x ≤ (n : Int) - 1) → (l.take i).Nodup → Ev (fun k => spec_l04Each.l0 k (n : Int) l (i : Int)) (isOrd n l) := by
  induction d with
  | zero =>
    intro i hi h1 h2
    have : i = l.length := by omega
    subst this
    rw [List.take_length] at h1 h2
    refine Ev.step (f := fun _ => some ((l.length : Int) == (n : Int))) (fun k => ?_) (ev_id (Ev.now _) ?_)
    · simp only [spec_l04Each.l0]; rw [if_neg (by omega)]
    · unfold isOrd
      by_cases e : l.length = n
      · rw [decide_eq_true ⟨e, h1, h2⟩, e]; simp
      · rw [decide_eq_false (fun z => e z.1)]
        exact beq_eq_false_iff_ne.mpr (by omega)
  | succ d ih =>
    intro i hi h1 h2
    have hil : i < l.length := by omega
    have wn : wrap64 ((n : Int) - 1) = (n : Int) - 1 := wr (by omega) (by omega)
    by_cases hr : 0 ≤ l[i] ∧ l[i] ≤ (n : Int) - 1
    · have hh := has_ev (l.take i) l[i] (by rw [List.length_take]; omega)
      by_cases hm : l[i] ∈ l.take i
      · rw [decide_eq_true hm] at hh
        have : isOrd n l = false := decide_eq_false (fun z => by
          have q := z.2.2
          rw [← List.take_append_drop (i + 1) l, take_snoc l hil] at q
          have q2 := (List.nodup_append.1 (List.nodup_append.1 q).1).2.2 _ hm l[i] (by simp)
          exact q2 rfl)
        rw [this]
        refine Ev.step (f := fun k => (spec_l00Has.f k (l.take i) l[i]).bind fun t => if t = true then some false else spec_l04Each.l0 k (n : Int) l ((i + 1 : Nat) : Int)) (fun k => ?_) (Ev.bind hh ?_)
        · simp only [spec_l04Each.l0, rd_lt hil, l00In_f, Option.bind_some, if_dec, wn]
          rw [if_pos (by omega), if_pos (by omega), if_pos hr, if_pos (by omega), Int.toNat_natCast, wr (n := (i : Int) + 1) (by omega) (by omega)]
          rfl
        · simp only [if_true]; exact Ev.now _
      · rw [decide_eq_false hm] at hh
        refine Ev.step (f := fun k => (spec_l00Has.f k (l.take i) l[i]).bind fun t => if t = true then some false else spec_l04Each.l0 k (n : Int) l ((i + 1 : Nat) : Int)) (fun k => ?_) (Ev.bind hh ?_)
        · simp only [spec_l04Each.l0, rd_lt hil, l00In_f, Option.bind_some, if_dec, wn]
          rw [if_pos (by omega), if_pos (by omega), if_pos hr, if_pos (by omega), Int.toNat_natCast, wr (n := (i : Int) + 1) (by omega) (by omega)]
          rfl
        · simp only [Bool.false_eq_true, if_false]
          refine ih (i + 1) (by omega) ?_ ?_
          · intro x hx
            rw [take_snoc l hil] at hx
            rcases List.mem_append.1 hx with hx | hx
            · exact h1 x hx
            · rw [List.mem_singleton.1 hx]; exact hr
          · rw [take_snoc l hil]
            refine List.nodup_append.2 ⟨h2, by simp, ?_⟩
            intro a ha b hb
            rw [List.mem_singleton.1 hb]
            intro e; exact hm (e ▸ ha)
    · have : isOrd n l = false := decide_eq_false (fun z => hr (z.2.1 _ (List.getElem_mem hil)))
      rw [this]
      refine Ev.step (f := fun _ => some false) (fun k => ?_) (Ev.now _)
      simp only [spec_l04Each.l0, rd_lt hil, l00In_f, Option.bind_some, if_dec, wn]
      rw [if_pos (by omega), if_pos (by omega), if_neg hr]
theorem each_ev (n : Nat) (hn : (n : Int) ≤ 1048576) (l : List Int) (hl : (l.length : Int) ≤ 140737488351232) : Ev (fun k => spec_l04Each.f k (n : Int) l) (isOrd n l) := by
  unfold spec_l04Each.f
  exact each_loop n hn l hl l.length 0 (by omega) (by simp) (by simp)
theorem incr_loop (B : Int) (s : List Int) (hs : s.Pairwise (fun a b => a ≤ b)) (hl : (s.length : Int) ≤ 140737488351232) (d : Nat) : ∀ (i : Nat), i + d = s.length → (∀ x ∈ s.take i, 0 ≤ x ∧ x ≤ B) → (s.take i).Pairwise (fun a b => a < b) →
    Ev (fun k => impl_areIncreasing.l0 k s 0 B s (s.length : Int) (i : Int)) (decide ((∀ x ∈ s, 0 ≤ x ∧ x ≤ B) ∧ s.Pairwise (fun a b => a < b))) := by
  induction d with
  | zero =>
    intro i hi h1 h2
    have : i = s.length := by omega
    subst this
    rw [List.take_length] at h1 h2
    rw [decide_eq_true ⟨h1, h2⟩]
    refine Ev.step (f := fun _ => some true) (fun k => ?_) (Ev.now _)
    simp only [impl_areIncreasing.l0]; rw [if_neg (by omega)]
  | succ d ih =>
    intro i hi h1 h2
    have hil : i < s.length := by omega
    by_cases hr : 0 ≤ s[i] ∧ s[i] ≤ B
    · have more : (0 < i → s[i - 1]'(by omega) < s[i]) → (s.take (i + 1)).Pairwise (fun a b => a < b) := by
        intro hp
        rw [take_snoc s hil]
        refine List.pairwise_append.2 ⟨h2, by simp, ?_⟩
        intro a ha b hb
        rw [List.mem_singleton.1 hb]
        obtain ⟨j, hj, rfl⟩ := List.mem_iff_getElem.1 ha
        rw [List.length_take] at hj
        rw [List.getElem_take]
        have hlt := hp (by omega)
        rcases Nat.lt_or_ge j (i - 1) with h | h
        · have := List.pairwise_iff_getElem.1 hs j (i - 1) (by omega) (by omega) h
          omega
        · have e : j = i - 1 := by omega
          subst e; exact hlt
      have rng : ∀ x ∈ s.take (i + 1), 0 ≤ x ∧ x ≤ B := by
        intro x hx
        rw [take_snoc s hil] at hx
        rcases List.mem_append.1 hx with hx | hx
        · exact h1 x hx
        · rw [List.mem_singleton.1 hx]; exact hr
      by_cases h0 : 0 < i
      · have wi : wrap64 ((i : Int) - 1) = ((i - 1 : Nat) : Int) := by rw [wr (by omega) (by omega)]; omega
        have hil' : i - 1 < s.length := by omega
        by_cases hle : s[i] ≤ s[i - 1]
        · rw [decide_eq_false (fun z => by
            have := List.pairwise_iff_getElem.1 z.2 (i - 1) i (by omega) (by omega) (by omega)
            omega)]
          refine Ev.step (f := fun _ => some false) (fun k => ?_) (Ev.now _)
          simp only [impl_areIncreasing.l0, rd_lt hil, within_f, Option.bind_some, if_dec, wi, rd_lt hil']
          rw [if_pos (by omega), if_pos (by omega), if_pos (by omega), if_pos hr, if_pos (by omega), if_pos (by omega), if_pos (by omega), if_pos hle]
        · refine Ev.step (fun k => ?_) (ih (i + 1) (by omega) rng (more (fun _ => by omega)))
          simp only [impl_areIncreasing.l0, rd_lt hil, within_f, Option.bind_some, if_dec, wi, rd_lt hil']
          rw [if_pos (by omega), if_pos (by omega), if_pos (by omega), if_pos hr, if_pos (by omega), if_pos (by omega), if_pos (by omega), if_neg hle, wr (n := (i : Int) + 1) (by omega) (by omega)]; rfl
      · refine Ev.step (fun k => ?_) (ih (i + 1) (by omega) rng (more (fun h => absurd h h0)))
        simp only [impl_areIncreasing.l0, rd_lt hil, within_f, Option.bind_some, if_dec]
        rw [if_pos (by omega), if_pos (by omega), if_pos (by omega), if_pos hr, if_neg (by omega), wr (n := (i : Int) + 1) (by omega) (by omega)]; rfl
    · rw [decide_eq_false (fun z => hr (z.1 _ (List.getElem_mem hil)))]
      refine Ev.step (f := fun _ => some false) (fun k => ?_) (Ev.now _)
      simp only [impl_areIncreasing.l0, rd_lt hil, within_f, Option.bind_some, if_dec]
      rw [if_pos (by omega), if_pos (by omega), if_pos (by omega), if_neg hr]
theorem isOrder_ev (n : Nat) (hn : (n : Int) ≤ 1048576) (l : List Int) (hl : (l.length : Int) ≤ 1048576) : Ev (fun k => impl_isOrder.f k l (n : Int)) (isOrd n l) := by
  unfold impl_isOrder.f
  by_cases h : (l.length : Int) = (n : Int)
  · have hz : l.length * 8 ≤ 140737488351232 := by omega
    have wn : wrap64 ((n : Int) - 1) = (n : Int) - 1 := wr (by omega) (by omega)
    simp only [if_pos h, if_pos hz, wn]
    unfold impl_areIncreasing.f
    have hp : (l.mergeSort fun x y => decide (x ≤ y)).Perm l := List.mergeSort_perm l _
    have hs : (l.mergeSort fun x y => decide (x ≤ y)).Pairwise (fun a b => a ≤ b) := by
      have z := List.pairwise_mergeSort (le := fun x y : Int => decide (x ≤ y)) (by simp; omega) (by simp; omega) l
      exact z.imp (fun h => of_decide_eq_true h)
    have hlen : (l.mergeSort fun x y => decide (x ≤ y)).length = l.length := hp.length_eq
    generalize (l.mergeSort fun x y => decide (x ≤ y)) = s at *
    refine ev_id (incr_loop ((n : Int) - 1) s hs (by omega) s.length 0 (by omega) (by simp) (by simp)) ?_
    unfold isOrd
    rw [decide_eq_decide]
    constructor
    · rintro ⟨a, b⟩
      exact ⟨by omega, fun x hx => a x (hp.mem_iff.2 hx), hp.nodup_iff.1 (b.imp (fun h => by omega))⟩
    · rintro ⟨_, a, b⟩
      refine ⟨fun x hx => a x (hp.mem_iff.1 hx), ?_⟩
      exact (hs.and (hp.nodup_iff.2 b)).imp (fun ⟨h1, h2⟩ => by omega)
  · simp only [if_neg h]
    have : isOrd n l = false := decide_eq_false (fun z => h (by omega))
    rw [this]; exact Ev.now _
/-- An order of so many numbers has each of them. -/
theorem ord_all {n : Nat} {l : List Int} (h : isOrd n l = true) (v : Nat) (hv : v < n) : (v : Int) ∈ l := by
  obtain ⟨h1, h2, h3⟩ := of_decide_eq_true h
  have hp : (l.mergeSort fun x y => decide (x ≤ y)).Perm l := List.mergeSort_perm l _
  have hs : (l.mergeSort fun x y => decide (x ≤ y)).Pairwise (fun a b => a ≤ b) := by
    have z := List.pairwise_mergeSort (le := fun x y : Int => decide (x ≤ y)) (by simp; omega) (by simp; omega) l
    exact z.imp (fun h => of_decide_eq_true h)
  generalize (l.mergeSort fun x y => decide (x ≤ y)) = s at *
  have hlt : s.Pairwise (fun a b => a < b) := (hs.and (hp.nodup_iff.2 h3)).imp (fun ⟨h1, h2⟩ => by omega)
  have hlen : s.length = n := by rw [hp.length_eq]; exact h1
  have rng : ∀ x ∈ s, 0 ≤ x ∧ x ≤ (n : Int) - 1 := fun x hx => h2 x (hp.mem_iff.1 hx)
  have step : ∀ i (h : i + 1 < s.length), s[i] + 1 ≤ s[i + 1] := fun i h => by
    have := List.pairwise_iff_getElem.1 hlt i (i + 1) (by omega) h (by omega)
    omega
  have low : ∀ i (h : i < s.length), (i : Int) ≤ s[i] := by
    intro i
    induction i with
    | zero => intro h; have := rng _ (List.getElem_mem h); omega
    | succ i ih => intro h; have := ih (by omega); have := step i h; omega
  have up : ∀ d i (h : i + d < s.length), s[i] + (d : Int) ≤ s[i + d] := by
    intro d
    induction d with
    | zero => intro i h; simp
    | succ d ih =>
      intro i h
      have a := ih i (by omega)
      have b := step (i + d) (by omega)
      have e : s[i + (d + 1)] = s[i + d + 1] := by congr 1
      rw [e]; omega
  have hvl : v < s.length := by omega
  have a := low v hvl
  have b := up (n - 1 - v) v (by omega)
  have c := rng _ (List.getElem_mem (show v + (n - 1 - v) < s.length by omega))
  have e : s[v] = (v : Int) := by omega
  exact hp.mem_iff.1 (e ▸ List.getElem_mem hvl)
/-- Where a number stands first. -/
def posn : List Int → Int → Nat
  | [], _ => 0
  | x :: l, v => if v = x then 0 else posn l v + 1
theorem posn_mem : ∀ (l : List Int) (v : Int), v ∈ l → ∃ h : posn l v < l.length, l[posn l v] = v
  | [], v, h => by simp at h
  | x :: l, v, h => by
    by_cases e : v = x
    · simp [posn, e]
    · have hm : v ∈ l := (List.mem_cons.1 h).resolve_left e
      obtain ⟨h1, h2⟩ := posn_mem l v hm
      simp only [posn, if_neg e]
      exact ⟨by simpa using h1, by simpa using h2⟩
theorem index_loop (l : List Int) (v : Int) (hl : (l.length : Int) ≤ 1048576) (d : Nat) : ∀ i : Nat, i + d = l.length → v ∈ l.drop i → Ev (fun k => slices_Index_int64_int64.l0 k l v (l.length : Int) (i : Int)) (((i + posn (l.drop i) v : Nat) : Int)) := by
  induction d with
  | zero => intro i hi h; rw [List.drop_eq_nil_of_le (by omega)] at h; simp at h
  | succ d ih =>
    intro i hi h
    have hil : i < l.length := by omega
    rw [List.drop_eq_getElem_cons hil] at h ⊢
    by_cases e : v = l[i]
    · refine Ev.step (f := fun _ => some (i : Int)) (fun k => ?_) (ev_id (Ev.now _) (by simp [posn, e]))
      simp only [slices_Index_int64_int64.l0, rd_lt hil]
      rw [if_pos (by omega), if_pos (by omega), if_pos (by omega), if_pos e]
    · have hm : v ∈ l.drop (i + 1) := (List.mem_cons.1 h).resolve_left e
      refine Ev.step (fun k => ?_) (ev_id (ih (i + 1) (by omega) hm) ?_)
      · simp only [slices_Index_int64_int64.l0, rd_lt hil]
        rw [if_pos (by omega), if_pos (by omega), if_pos (by omega), if_neg e, wr (n := (i : Int) + 1) (by omega) (by omega)]; rfl
      · simp only [posn, if_neg e]; omega
theorem index_ev (l : List Int) (v : Int) (hl : (l.length : Int) ≤ 1048576) (h : v ∈ l) : Ev (fun k => slices_Index_int64_int64.f k l v) ((posn l v : Nat) : Int) := by
  unfold slices_Index_int64_int64.f
  have := index_loop l v hl l.length 0 (by omega) (by simpa using h)
  simpa using this
/-- The first place, from j on, of a number above off; or the place behind them all. -/
def fJ (off : Int) : List Int → Nat → Nat
  | [], j => j
  | x :: L, j => if x > off then j else fJ off L (j + 1)
theorem fJ_ge (off : Int) : ∀ (L : List Int) (j : Nat), j ≤ fJ off L j ∧ fJ off L j ≤ j + L.length
  | [], j => by simp [fJ]
  | x :: L, j => by
    have h := fJ_ge off L (j + 1)
    simp only [fJ, List.length_cons]
    split <;> omega
theorem idxO_eq (off : Int) : ∀ (L : List Int) (j : Nat), idxO (fun x => impl_FewestForOrder_1.f x off) L (j : Int) = some (if fJ off L j < j + L.length then ((fJ off L j : Nat) : Int) else -1)
  | [], j => by simp [fJ, idxO]
  | x :: L, j => by
    have ih := idxO_eq off L (j + 1)
    show ((impl_FewestForOrder_1.f x off).bind fun b => if b = true then some (j : Int) else idxO (fun x => impl_FewestForOrder_1.f x off) L ((j : Int) + 1)) = _
    have e0 : impl_FewestForOrder_1.f x off = some (decide (x > off)) := rfl
    simp only [e0, Option.bind_some, if_dec, fJ, List.length_cons]
    by_cases h : x > off
    · simp only [if_pos h]
      rw [if_pos (by omega)]
    · simp only [if_neg h]
      have e : (j : Int) + 1 = ((j + 1 : Nat) : Int) := by omega
      rw [e, ih]
      have e2 : j + 1 + L.length = j + (L.length + 1) := by omega
      rw [e2]
/-- What the program does behind a strand's place. -/
def impl_FewestForOrder_next (k : Nat) (x0 x5 x6 : List Int) (x21 x22 t170 : Int) : Option (List Int × Int × Int) := (slices_IndexFunc_int_int.f x5 (fun x_ => impl_FewestForOrder_1.f x_ t170)).bind fun t172 => (if t172 < 0 then (if x5.length < 17592186044416 then ((some (x5 ++ [0] : List Int)).bind fun y173 => (if 0 ≤ (x5.length : Int) then (if (x5.length : Int) < (y173.length : Int) then (if x6.length < 17592186044416 then (impl_FewestForOrder.l0 k x0 (y173.set ((x5.length : Int) : Int).toNat t170) (x6 ++ [(x5.length : Int)]) x21 (wrap64 (x22 + 1))) else (none)) else (none)) else (none))) else (none)) else (if 0 ≤ t172 then (if t172 < (x5.length : Int) then (if x6.length < 17592186044416 then (impl_FewestForOrder.l0 k x0 (x5.set (t172 : Int).toNat t170) (x6 ++ [t172]) x21 (wrap64 (x22 + 1))) else (none)) else (none)) else (none)))
/-- The rows' ends behind one number more. -/
def ends (off : Int) (L : List Int) : List Int := if fJ off L 0 < L.length then L.set (fJ off L 0) off else L ++ [off]
theorem wsucc (n : Nat) (h : n ≤ 8) : wrap64 ((n : Int) + 1) = ((n + 1 : Nat) : Int) := by rw [wr (by omega) (by omega)]; omega
theorem when_loop (O : List Int) (hO : O.length ≤ 8) (hr : ∀ x ∈ O, 0 ≤ x ∧ x < (O.length : Int)) (hd : O.Nodup) (R : List Int × Int × Int) (next : ∀ W : List Int, W.length = O.length → (∀ j (h : j < O.length), rd W O[j] = (j : Int)) → Ev (fun k => spec_FewestForOrder.l1 k O W [] [] 0) R) (d : Nat) : ∀ (i : Nat) (W : List Int), i + d = O.length → W.length = O.length → (∀ j (h : j < O.length), j < i → rd W O[j] = (j : Int)) →
    Ev (fun k => spec_FewestForOrder.l0 k O W (i : Int)) R := by
  induction d with
  | zero =>
    intro i W hi hW h
    refine Ev.step (fun k => ?_) (next W hW (fun j hj => h j hj (by omega)))
    simp only [spec_FewestForOrder.l0]; rw [if_neg (by omega)]
  | succ d ih =>
    intro i W hi hW h
    have hil : i < O.length := by omega
    have ri := hr O[i] (List.getElem_mem hil)
    refine Ev.step (fun k => ?_) (ih (i + 1) (W.set O[i].toNat (i : Int)) (by omega) (by simpa using hW) ?_)
    · simp only [spec_FewestForOrder.l0, rd_lt hil]
      rw [if_pos (by omega), if_pos (by omega), if_pos (by omega), if_pos (by omega), wr (n := (i : Int) + 1) (by omega) (by omega)]; rfl
    · intro j hj hji
      have rj := hr O[j] (List.getElem_mem hj)
      unfold rd
      rw [List.getD_eq_getElem?_getD, List.getElem?_set]
      by_cases e : j = i
      · subst e
        rw [if_pos rfl, if_pos (by omega)]; rfl
      · have hne : ¬ O[i].toNat = O[j].toNat := by
          intro e2
          have e3 : O[i] = O[j] := by omega
          have := (List.pairwise_iff_getElem.1 hd) 
          rcases Nat.lt_or_ge j i with hlt | hge
          · exact this j i hj hil hlt e3.symm
          · omega
        rw [if_neg hne, ← List.getD_eq_getElem?_getD]
        exact h j hj (by omega)
/-- The piles from strand i on. -/
def pil (O : List Int) : Nat → Nat → List Int → List Int → List Int × Int × Int
  | 0, _, out, L => (out, (L.length : Int), 0)
  | d + 1, i, out, L => pil O d (i + 1) (out ++ [((fJ ((posn O (i : Int) : Nat) : Int) L 0 : Nat) : Int)]) (ends ((posn O (i : Int) : Nat) : Int) L)
section
variable (O W : List Int) (hO : O.length ≤ 8) (hW : W.length = O.length)
include hO hW
theorem at_loop (out L : List Int) (i : Nat) (hi : i < O.length) (off : Int) (hoff : rd W (i : Int) = off) (hL : L.length ≤ i) (hout : out.length ≤ i) (hne : ∀ x ∈ L, x ≠ off) (R : List Int × Int × Int) (d : Nat) : ∀ j : Nat, j + d = L.length →
    Ev (fun k => spec_FewestForOrder.l1 k O W (out ++ [((fJ off (L.drop j) j : Nat) : Int)]) (if fJ off (L.drop j) j < L.length then L.set (fJ off (L.drop j) j) off else L ++ [off]) ((i + 1 : Nat) : Int)) R →
    Ev (fun k => spec_FewestForOrder.l2 k O W out L (i : Int) (j : Int)) R := by
  have hi8 : i ≤ 8 := by omega
  induction d with
  | zero =>
    intro j hj h
    have : j = L.length := by omega
    subst this
    have e0 : (if fJ off (L.drop L.length) L.length < L.length then L.set (fJ off (L.drop L.length) L.length) off else L ++ [off]) = L ++ [off] := by
      rw [List.drop_eq_nil_of_le (by omega)]
      exact if_neg (by show ¬ L.length < L.length; omega)
    have e1 : fJ off (L.drop L.length) L.length = L.length := by rw [List.drop_eq_nil_of_le (by omega)]; rfl
    rw [e0, e1] at h
    clear e0 e1
    refine Ev.step (fun k => ?_) h
    simp only [spec_FewestForOrder.l2, hoff, Option.bind_some, wsucc i hi8]
    have hlen : (L.length : Int) < ((L ++ [off]).length : Int) := by simp; omega
    have hset : (L ++ [off]).set (L.length : Int).toNat off = L ++ [off] := by
      rw [Int.toNat_natCast, List.set_append_right _ _ (by omega)]; simp
    rw [if_neg (by omega), if_pos trivial, if_pos (by omega), if_pos (by omega), if_pos (by omega), if_pos (by omega), if_pos hlen, if_pos (by omega), hset]
  | succ d ih =>
    intro j hj h
    have hjl : j < L.length := by omega
    have d0 : L.drop j = L[j] :: L.drop (j + 1) := List.drop_eq_getElem_cons hjl
    have hj8 : j ≤ 8 := by omega
    have n0 := hne L[j] (List.getElem_mem hjl)
    by_cases e : L[j] > off
    · have e1 : fJ off (L.drop j) j = j := by rw [d0]; exact if_pos e
      rw [e1, if_pos hjl] at h
      clear e1 d0 ih
      refine Ev.step (fun k => ?_) h
      have g1 : (j : Int) < (L.length : Int) := by omega
      have g2 : (0 : Int) ≤ (j : Int) := by omega
      have g3 : (0 : Int) ≤ (i : Int) := by omega
      have g4 : (i : Int) < (W.length : Int) := by omega
      have g5 : ¬ L[j] < off := by omega
      have g6 : ¬ (j : Int) = (L.length : Int) := by omega
      have g7 : out.length < 17592186044416 := by omega
      simp only [spec_FewestForOrder.l2, hoff, rd_lt hjl, wsucc i hi8, if_pos g1, if_pos g2, if_pos g3, if_pos g4, if_neg g5, if_neg g6, if_pos g7, Int.toNat_natCast]
    · have e1 : fJ off (L.drop j) j = fJ off (L.drop (j + 1)) (j + 1) := by rw [d0]; exact if_neg e
      rw [e1] at h
      clear e1 d0
      refine Ev.step (fun k => ?_) (ih (j + 1) (by omega) h)
      clear h ih
      have g1 : (j : Int) < (L.length : Int) := by omega
      have g2 : (0 : Int) ≤ (j : Int) := by omega
      have g3 : (0 : Int) ≤ (i : Int) := by omega
      have g4 : (i : Int) < (W.length : Int) := by omega
      have g5 : L[j] < off := by omega
      simp only [spec_FewestForOrder.l2, hoff, rd_lt hjl, wsucc j hj8, if_pos g1, if_pos g2, if_pos g3, if_pos g4, if_pos g5]
theorem few_loop (hv : ∀ v : Nat, v < O.length → (v : Int) ∈ O) (hw : ∀ v : Nat, v < O.length → rd W (v : Int) = ((posn O (v : Int) : Nat) : Int)) (d : Nat) : ∀ (i : Nat) (out L : List Int), i + d = O.length → L.length ≤ i → out.length = i → (∀ x ∈ L, ∃ j : Nat, j < i ∧ x = ((posn O (j : Int) : Nat) : Int)) →
    ∃ r : List Int × Int × Int, r = pil O d i out L ∧ Ev (fun k => spec_FewestForOrder.l1 k O W out L (i : Int)) r ∧ Ev (fun k => impl_FewestForOrder.l0 k O L out (O.length : Int) (i : Int)) r ∧ r.1.length ≤ 8 := by
  induction d with
  | zero =>
    intro i out L hi hL ho hx
    refine ⟨(out, (L.length : Int), 0), rfl, Ev.step (f := fun _ => some (out, (L.length : Int), 0)) (fun k => ?_) (Ev.now _), Ev.step (f := fun _ => some (out, (L.length : Int), 0)) (fun k => ?_) (Ev.now _), by simp only; omega⟩
    · simp only [spec_FewestForOrder.l1]; rw [if_neg (by omega)]
    · simp only [impl_FewestForOrder.l0]; rw [if_neg (by omega)]; rfl
  | succ d ih =>
    intro i out L hi hL ho hx
    have hil : i < O.length := by omega
    have hi8 : i ≤ 8 := by omega
    have ix := index_ev O (i : Int) (by omega) (hv i hil)
    have hwi := hw i hil
    obtain ⟨p1, p2⟩ := posn_mem O (i : Int) (hv i hil)
    have hne : ∀ x ∈ L, x ≠ ((posn O (i : Int) : Nat) : Int) := by
      intro x hxm e
      obtain ⟨j, hj, e2⟩ := hx x hxm
      obtain ⟨q1, q2⟩ := posn_mem O (j : Int) (hv j (by omega))
      have e3 : posn O (j : Int) = posn O (i : Int) := by omega
      have e4 : (j : Int) = (i : Int) := by
        rw [← q2, ← p2]
        congr 1
      omega
    generalize hoff : ((posn O (i : Int) : Nat) : Int) = off at *
    have S : ∀ R, Ev (fun k => spec_FewestForOrder.l1 k O W (out ++ [((fJ off L 0 : Nat) : Int)]) (ends off L) ((i + 1 : Nat) : Int)) R → Ev (fun k => spec_FewestForOrder.l1 k O W out L (i : Int)) R := by
      intro R h
      have z := at_loop O W hO hW out L i hil off hwi hL (by omega) hne R L.length 0 (by omega)
      rw [List.drop_zero] at z
      refine Ev.step (fun k => ?_) (z h)
      simp only [spec_FewestForOrder.l1]; rw [if_pos (by omega)]; rfl
    have fg := fJ_ge off L 0
    have q : slices_IndexFunc_int_int.f L (fun x_ => impl_FewestForOrder_1.f x_ off) = some (if fJ off L 0 < L.length then ((fJ off L 0 : Nat) : Int) else -1) := by
      show idxG L _ = _
      unfold idxG
      have cl : (L.length : Int) ≤ 4611686018427387904 := by omega
      rw [if_pos cl]
      have z := idxO_eq off L 0
      simpa using z
    have hx' : ∀ x ∈ ends off L, ∃ j : Nat, j < i + 1 ∧ x = ((posn O (j : Int) : Nat) : Int) := by
      intro x hxm
      have : x ∈ L ∨ x = off := by
        unfold ends at hxm
        split at hxm
        · exact List.mem_or_eq_of_mem_set hxm
        · simpa using hxm
      rcases this with hm | rfl
      · obtain ⟨j, hj, e⟩ := hx x hm
        exact ⟨j, by omega, e⟩
      · exact ⟨i, by omega, hoff.symm⟩
    have hlen : (ends off L).length ≤ i + 1 := by
      unfold ends
      split
      · simp; omega
      · simp; omega
    obtain ⟨r, e0, e1, e2, e3⟩ := ih (i + 1) (out ++ [((fJ off L 0 : Nat) : Int)]) (ends off L) (by omega) hlen (by simp; omega) hx'
    refine ⟨r, by rw [e0]; simp only [pil]; rw [hoff], S r e1, ?_, e3⟩
    refine Ev.step (f := fun k => (slices_Index_int64_int64.f k O (i : Int)).bind fun t170 => impl_FewestForOrder_next k O L out (O.length : Int) (i : Int) t170) (fun k => ?_) (Ev.bind ix ?_)
    · simp only [impl_FewestForOrder.l0]; rw [if_pos (by omega)]; rfl
    · unfold impl_FewestForOrder_next
      simp only [q, Option.bind_some, wsucc i hi8]
      by_cases hf : fJ off L 0 < L.length
      · have he : ends off L = L.set (fJ off L 0) off := by unfold ends; rw [if_pos hf]
        rw [he] at e2
        simp only [if_pos hf]
        have g1 : ¬ ((fJ off L 0 : Nat) : Int) < 0 := by omega
        have g2 : (0 : Int) ≤ ((fJ off L 0 : Nat) : Int) := by omega
        have g3 : ((fJ off L 0 : Nat) : Int) < (L.length : Int) := by omega
        have g4 : out.length < 17592186044416 := by omega
        simp only [if_neg g1, if_pos g2, if_pos g3, if_pos g4, Int.toNat_natCast]
        exact e2
      · have hJ : fJ off L 0 = L.length := by omega
        have he : ends off L = L ++ [off] := by unfold ends; rw [if_neg hf]
        rw [he, hJ] at e2
        simp only [if_neg hf]
        have g1 : (-1 : Int) < 0 := by omega
        have g2 : L.length < 17592186044416 := by omega
        have g3 : (0 : Int) ≤ (L.length : Int) := by omega
        have g4 : (L.length : Int) < ((L ++ [(0 : Int)]).length : Int) := by simp; omega
        have g5 : out.length < 17592186044416 := by omega
        have hset : (L ++ [(0 : Int)]).set (L.length : Int).toNat off = L ++ [off] := by
          rw [Int.toNat_natCast, List.set_append_right _ _ (by omega)]; simp
        simp only [if_pos g1, if_pos g2, if_pos g3, if_pos g4, if_pos g5, hset]
        exact e2
end
theorem few_told (O : List Int) (hO : O.length ≤ 8) (ho : isOrd O.length O = true) : Ev (fun k => spec_FewestForOrder.f k O) (pil O O.length 0 [] []) ∧ Ev (fun k => impl_FewestForOrder.f k O) (pil O O.length 0 [] []) := by
  unfold spec_FewestForOrder.f impl_FewestForOrder.f
  have h8 : ¬ (O.length : Int) > 8 := by omega
  simp only [if_neg h8]
  have s := each_ev O.length (by omega) O (by omega)
  have i := isOrder_ev O.length (by omega) O (by omega)
  rw [ho] at s i
  obtain ⟨_, h2, h3⟩ := of_decide_eq_true ho
  have hv : ∀ v : Nat, v < O.length → (v : Int) ∈ O := fun v h => ord_all ho v h
  have key : ∀ W : List Int, W.length = O.length → (∀ j (h : j < O.length), rd W O[j] = (j : Int)) → ∀ v : Nat, v < O.length → rd W (v : Int) = ((posn O (v : Int) : Nat) : Int) := by
    intro W _ hw v hvl
    obtain ⟨p1, p2⟩ := posn_mem O (v : Int) (hv v hvl)
    have := hw _ p1
    rw [p2] at this; exact this
  have wl := when_loop O hO (fun x hx => by have := h2 x hx; omega) h3 (pil O O.length 0 [] []) (fun W hW hk => by
    obtain ⟨r', e0, f1, _, _⟩ := few_loop O W hO hW hv (key W hW hk) O.length 0 [] [] (by omega) (by simp) (by simp) (by simp)
    rw [e0] at f1; exact f1) O.length 0 (List.replicate O.length 0) (by omega) (by simp) (by intro j _ h; omega)
  constructor
  · refine Ev.bind s ?_
    simp only [if_true]
    have c0 : (0 : Int) ≤ (O.length : Int) := by omega
    have c1 : (O.length : Int).toNat ≤ 35184372088832 := by omega
    rw [Int.toNat_natCast] at c1
    simp only [if_pos c0, Int.toNat_natCast, if_pos c1]
    exact wl
  · refine Ev.bind i ?_
    simp only [if_true]
    have e : impl_length_int64.f O = some (O.length : Int) := rfl
    simp only [e, Option.bind_some]
    -- some list of places
    obtain ⟨W0, hW0, hk0⟩ : ∃ W : List Int, W.length = O.length ∧ ∀ j (h : j < O.length), rd W O[j] = (j : Int) := by
      refine ⟨(List.range O.length).map (fun (v : Nat) => ((posn O (v : Int) : Nat) : Int)), by simp, ?_⟩
      intro j hj
      have rj := h2 O[j] (List.getElem_mem hj)
      obtain ⟨v, hv'⟩ := Int.eq_ofNat_of_zero_le rj.1
      rw [hv']
      have hvl : v < ((List.range O.length).map (fun (v : Nat) => ((posn O (v : Int) : Nat) : Int))).length := by simp; omega
      rw [rd_lt hvl]
      simp only [List.getElem_map, List.getElem_range]
      obtain ⟨p1, p2⟩ := posn_mem O (v : Int) (hv v (by simpa using hvl))
      have e : O[posn O (v : Int)] = O[j] := by rw [p2, hv']
      have hp := List.pairwise_iff_getElem.1 h3
      rcases Nat.lt_trichotomy (posn O (v : Int)) j with h | h | h
      · exact absurd e (hp _ _ p1 hj h)
      · rw [h]
      · exact absurd e.symm (hp _ _ hj p1 h)
    obtain ⟨r, e0, _, e2, _⟩ := few_loop O W0 hO hW0 hv (key W0 hW0 hk0) O.length 0 [] [] (by omega) (by simp) (by simp) (by simp)
    rw [e0] at e2; exact e2
/-- What is known of the piles: out tells each strand's pile, L the piles' ends. -/
structure Piles (q : Nat → Nat) (i : Nat) (out : List Int) (L : List Int) : Prop where
  len : out.length = i
  cnt : L.length ≤ i
  inc : ∀ p p', p < p' → p' < L.length → rd L (p : Int) < rd L (p' : Int)
  top : ∀ p, p < L.length → ∃ j, j < i ∧ rd out (j : Int) = (p : Int) ∧ ((q j : Nat) : Int) = rd L (p : Int)
  low : ∀ j, j < i → ∃ p : Nat, rd out (j : Int) = (p : Int) ∧ p < L.length ∧ rd L (p : Int) ≤ ((q j : Nat) : Int)
  some : ∀ j, j < i → rd out (j : Int) = 0 ∨ ∃ j', j' < j ∧ q j' < q j ∧ rd out (j' : Int) + 1 = rd out (j : Int)
  all : ∀ j j', j < i → j' < j → q j' < q j → rd out (j' : Int) < rd out (j : Int)
theorem rd_snoc_old (l : List Int) (x : Int) (j : Nat) (h : j < l.length) : rd (l ++ [x]) (j : Int) = rd l (j : Int) := by
  have h2 : j < (l ++ [x]).length := by simp; omega
  rw [rd_lt h2, rd_lt h, List.getElem_append_left h]
theorem rd_snoc_new (l : List Int) (x : Int) : rd (l ++ [x]) (l.length : Int) = x := by
  have h2 : l.length < (l ++ [x]).length := by simp
  rw [rd_lt h2]; simp
theorem rd_set (l : List Int) (x : Int) (i j : Nat) (h : i < l.length) : rd (l.set i x) (j : Int) = if j = i then x else rd l (j : Int) := by
  unfold rd
  rw [Int.toNat_natCast, List.getD_eq_getElem?_getD, List.getElem?_set, List.getD_eq_getElem?_getD]
  by_cases e : i = j
  · subst e; simp [h]
  · rw [if_neg e, if_neg (fun z => e z.symm)]
theorem fJ_spec (off : Int) : ∀ (L : List Int) (j : Nat), (∀ p, p < fJ off L j - j → rd L (p : Int) ≤ off) ∧ (fJ off L j - j < L.length → rd L ((fJ off L j - j : Nat) : Int) > off)
  | [], j => by simp [fJ]
  | x :: L, j => by
    obtain ⟨h1, h2⟩ := fJ_spec off L (j + 1)
    have g := (fJ_ge off L (j + 1)).1
    simp only [fJ]
    by_cases e : x > off
    · rw [if_pos e, Nat.sub_self]
      exact ⟨fun p hp => by omega, fun _ => by unfold rd; simpa using e⟩
    · rw [if_neg e]
      have e2 : fJ off L (j + 1) - j = (fJ off L (j + 1) - (j + 1)) + 1 := by omega
      rw [e2]
      have sh : ∀ p : Nat, rd (x :: L) ((p + 1 : Nat) : Int) = rd L (p : Int) := by intro p; unfold rd; simp
      refine ⟨fun p hp => ?_, fun hp => ?_⟩
      · cases p with
        | zero => unfold rd; simp; omega
        | succ p => rw [sh]; exact h1 p (by omega)
      · rw [sh]; exact h2 (by simpa using hp)
theorem Piles.step {q : Nat → Nat} {i : Nat} {out L : List Int} (h : Piles q i out L) (hq : ∀ j, j < i → q j ≠ q i) : Piles q (i + 1) (out ++ [((fJ ((q i : Nat) : Int) L 0 : Nat) : Int)]) (ends ((q i : Nat) : Int) L) := by
  obtain ⟨f1, f2⟩ := fJ_spec ((q i : Nat) : Int) L 0
  have g := (fJ_ge ((q i : Nat) : Int) L 0).2
  rw [Nat.sub_zero] at f1 f2
  unfold ends
  generalize hJ : fJ ((q i : Nat) : Int) L 0 = J at *
  -- below the place all ends are less
  have below : ∀ p, p < J → rd L (p : Int) < ((q i : Nat) : Int) := by
    intro p hp
    have := f1 p hp
    obtain ⟨j, j1, _, j3⟩ := h.top p (by omega)
    have := hq j j1
    omega
  have above : ∀ p, J ≤ p → p < L.length → ((q i : Nat) : Int) < rd L (p : Int) := by
    intro p h1 h2
    have := f2 (by omega)
    by_cases e : p = J
    · subst e; omega
    · have := h.inc J p (by omega) h2; omega
  have newE : ∀ p : Nat, rd (if J < L.length then L.set J ((q i : Nat) : Int) else L ++ [((q i : Nat) : Int)]) (p : Int) = if p = J then ((q i : Nat) : Int) else if p < L.length then rd L (p : Int) else 0 := by
    intro p
    by_cases hl : J < L.length
    · rw [if_pos hl, rd_set _ _ _ _ hl]
      by_cases e : p = J
      · rw [if_pos e, if_pos e]
      · rw [if_neg e, if_neg e]
        by_cases hp : p < L.length
        · rw [if_pos hp]
        · rw [if_neg hp]; unfold rd; simp [List.getD, Nat.not_lt.1 hp]
    · rw [if_neg hl]
      have : J = L.length := by omega
      subst this
      by_cases e : p = L.length
      · subst e; rw [if_pos rfl, rd_snoc_new]
      · rw [if_neg e]
        by_cases hp : p < L.length
        · rw [if_pos hp, rd_snoc_old _ _ _ hp]
        · rw [if_neg hp]; unfold rd; simp [List.getD]; rw [List.getElem?_eq_none (by simp; omega)]; rfl
  have newL : (if J < L.length then L.set J ((q i : Nat) : Int) else L ++ [((q i : Nat) : Int)]).length = if J < L.length then L.length else L.length + 1 := by
    split <;> simp
  have oldO : ∀ j, j < i → rd (out ++ [(J : Int)]) (j : Int) = rd out (j : Int) := fun j hj => rd_snoc_old _ _ _ (by rw [h.len]; exact hj)
  have newO : rd (out ++ [(J : Int)]) (i : Int) = (J : Int) := by rw [← h.len]; exact rd_snoc_new _ _
  generalize (if J < L.length then L.set J ((q i : Nat) : Int) else L ++ [((q i : Nat) : Int)]) = L' at *
  have hL' : J < L'.length ∧ L.length ≤ L'.length ∧ (∀ p, p < L'.length → p = J ∨ p < L.length) := by
    rw [newL]; split
    · exact ⟨by omega, by omega, fun p hp => by omega⟩
    · exact ⟨by omega, by omega, fun p hp => by omega⟩
  refine ⟨by simp [h.len], by have := h.cnt; rw [newL]; split <;> omega, ?_, ?_, ?_, ?_, ?_⟩
  · intro p p' hp hp'
    rw [newE, newE]
    have a := hL'.2.2 p' hp'
    by_cases e : p = J
    · rw [if_pos e, if_neg (by omega)]
      have hl : p' < L.length := by omega
      rw [if_pos hl]; exact above p' (by omega) hl
    · by_cases e' : p' = J
      · rw [if_neg e, if_pos e', if_pos (by omega)]; exact below p (by omega)
      · rw [if_neg e, if_neg e', if_pos (by omega), if_pos (by omega)]; exact h.inc p p' hp (by omega)
  · intro p hp
    rw [newE]
    by_cases e : p = J
    · rw [if_pos e]; exact ⟨i, by omega, by rw [newO, e], rfl⟩
    · have hl : p < L.length := by have := hL'.2.2 p hp; omega
      rw [if_neg e, if_pos hl]
      obtain ⟨j, j1, j2, j3⟩ := h.top p hl
      exact ⟨j, by omega, by rw [oldO j j1]; exact j2, j3⟩
  · intro j hj
    by_cases e : j = i
    · subst e; exact ⟨J, newO, hL'.1, by rw [newE, if_pos rfl]; omega⟩
    · have hji : j < i := by omega
      obtain ⟨p, p1, p2, p3⟩ := h.low j hji
      refine ⟨p, by rw [oldO j hji]; exact p1, by omega, ?_⟩
      rw [newE]
      by_cases e2 : p = J
      · rw [if_pos e2]
        have := above p (by omega) p2
        omega
      · rw [if_neg e2, if_pos p2]; exact p3
  · intro j hj
    by_cases e : j = i
    · subst e
      rw [newO]
      by_cases hJ0 : J = 0
      · left; omega
      · right
        obtain ⟨j', j1, j2, j3⟩ := h.top (J - 1) (by omega)
        have := below (J - 1) (by omega)
        exact ⟨j', j1, by omega, by rw [oldO j' j1, j2]; omega⟩
    · have hji : j < i := by omega
      rw [oldO j hji]
      rcases h.some j hji with h0 | ⟨j', a, b, c⟩
      · exact .inl h0
      · exact .inr ⟨j', a, b, by rw [oldO j' (by omega)]; exact c⟩
  · intro j j' hj hj' hlt
    by_cases e : j = i
    · subst e
      rw [newO, oldO j' hj']
      obtain ⟨p, p1, p2, p3⟩ := h.low j' hj'
      rw [p1]
      rcases Nat.lt_or_ge p J with h1 | h1
      · omega
      · have := above p h1 p2; omega
    · rw [oldO j (by omega), oldO j' (by omega)]; exact h.all j j' (by omega) hj' hlt
theorem pil_piles (O : List Int) (hq : ∀ i j, i < O.length → j < i → posn O (j : Int) ≠ posn O (i : Int)) (d : Nat) : ∀ (i : Nat) (out L : List Int), i + d = O.length → Piles (fun j => posn O (j : Int)) i out L →
    ∃ out' L', pil O d i out L = (out', (L'.length : Int), 0) ∧ Piles (fun j => posn O (j : Int)) O.length out' L' := by
  induction d with
  | zero =>
    intro i out L hi h
    have : i = O.length := by omega
    subst this
    exact ⟨out, L, rfl, h⟩
  | succ d ih =>
    intro i out L hi h
    exact ih (i + 1) _ _ (by omega) (h.step (fun j hj => hq i j (by omega) hj))
theorem Piles.start (q : Nat → Nat) : Piles q 0 [] [] := ⟨rfl, by simp, by simp, by simp, by simp, by simp, by simp⟩
theorem rd_drop (O : List Int) (i j : Nat) (h1 : i ≤ j) (h2 : j < O.length) : rd (O.drop i) ((j - i : Nat) : Int) = O[j] := by
  have hl : j - i < (O.drop i).length := by rw [List.length_drop]; omega
  rw [rd_lt hl, List.getElem_drop]
  congr 1; omega
/-- Two strands on one reel come off in the wrong order. -/
def wrongP (R O : List Int) (i j : Nat) : Prop := rd R (rd O (i : Int)) = rd R (rd O (j : Int)) ∧ rd O (i : Int) < rd O (j : Int)
def SameB (g f : Nat → Option (Bool × Int)) (N : Prop) : Prop := ∃ b, Ev g (b, 0) ∧ Ev f (b, 0) ∧ (b = true ↔ N)
theorem SameB.step {g f g' f' : Nat → Option (Bool × Int)} {N M : Prop} (hg : ∀ k, g (k + 1) = g' k) (hf : ∀ k, f (k + 1) = f' k) (h : SameB g' f' N) (e : N ↔ M) : SameB g f M := by
  obtain ⟨b, h1, h2, h3⟩ := h
  exact ⟨b, Ev.step hg h1, Ev.step hf h2, h3.trans e⟩
theorem SameB.now (b : Bool) {N : Prop} (h : b = true ↔ N) : SameB (fun _ => some (b, 0)) (fun _ => some (b, 0)) N := ⟨b, Ev.now _, Ev.now _, h⟩
theorem can_in (R O : List Int) (hO : O.length ≤ 8) (hr : ∀ x ∈ O, 0 ≤ x ∧ x < (R.length : Int)) (i : Nat) (hi : i < O.length) (N : Prop) (next : SameB (fun k => spec_CanUnwind.l0 k R O ((i + 1 : Nat) : Int)) (fun k => impl_CanUnwind.l0 k R O O (O.length : Int) ((i + 1 : Nat) : Int)) N) (d : Nat) : ∀ j : Nat, i + 1 ≤ j → j + d = O.length →
    SameB (fun k => spec_CanUnwind.l1 k R O (i : Int) (j : Int)) (fun k => impl_CanUnwind.l1 k R O O[i] O (O.length : Int) (i : Int) (O.drop (i + 1)) ((O.drop (i + 1)).length : Int) ((j - (i + 1) : Nat) : Int)) ((∀ j', j ≤ j' → j' < O.length → ¬ wrongP R O i j') ∧ N) := by
  have wi : wrap64 ((i : Int) + 1) = ((i + 1 : Nat) : Int) := by rw [wr (by omega) (by omega)]; omega
  have hlen : ((O.drop (i + 1)).length : Int) = (O.length : Int) - ((i : Int) + 1) := by rw [List.length_drop]; omega
  have ri := hr O[i] (List.getElem_mem hi)
  induction d with
  | zero =>
    intro j h1 h2
    refine SameB.step (fun k => ?_) (fun k => ?_) next ⟨fun n => ⟨fun j' _ _ => by omega, n⟩, fun n => n.2⟩
    · simp only [spec_CanUnwind.l1]; rw [if_neg (by omega), wi]
    · simp only [impl_CanUnwind.l1]; rw [if_neg (by omega), wi]
  | succ d ih =>
    intro j h1 h2
    have hj : j < O.length := by omega
    have rj := hr O[j] (List.getElem_mem hj)
    have wj : wrap64 ((j : Int) + 1) = ((j + 1 : Nat) : Int) := by rw [wr (by omega) (by omega)]; omega
    have wj' : wrap64 (((j - (i + 1) : Nat) : Int) + 1) = ((j + 1 - (i + 1) : Nat) : Int) := by rw [wr (by omega) (by omega)]; omega
    have rdj := rd_drop O (i + 1) j h1 hj
    have I := ih (j + 1) (by omega) (by omega)
    have step : ¬ wrongP R O i j → (((∀ j', j + 1 ≤ j' → j' < O.length → ¬ wrongP R O i j') ∧ N) ↔ ((∀ j', j ≤ j' → j' < O.length → ¬ wrongP R O i j') ∧ N)) := by
      intro hno
      constructor
      · rintro ⟨h, n⟩
        refine ⟨fun j' h1 h2 => ?_, n⟩
        by_cases e : j' = j
        · rw [e]; exact hno
        · exact h j' (by omega) h2
      · rintro ⟨h, n⟩
        exact ⟨fun j' h1 h2 => h j' (by omega) h2, n⟩
    by_cases e1 : rd R O[i] = rd R O[j]
    · by_cases e2 : O[i] < O[j]
      · refine SameB.step (g' := fun _ => some (false, 0)) (f' := fun _ => some (false, 0)) (N := False) (fun k => ?_) (fun k => ?_) (SameB.now false (by simp)) ⟨False.elim, fun n => n.1 j (Nat.le_refl _) hj ⟨by rw [rd_lt hi, rd_lt hj]; exact e1, by rw [rd_lt hi, rd_lt hj]; exact e2⟩⟩
        · simp only [spec_CanUnwind.l1, rd_lt hi, rd_lt hj]
          rw [if_pos (by omega), if_pos (by omega), if_pos (by omega), if_pos (by omega), if_pos (by omega), if_pos (by omega), if_pos (by omega), if_pos (by omega), if_pos e1, if_pos e2]
        · simp only [impl_CanUnwind.l1, rdj]
          rw [if_pos (by omega), if_pos (by omega), if_pos (by omega), if_pos (by omega), if_pos (by omega), if_pos (by omega), if_pos (by omega), if_pos e1, if_pos (by omega)]
      · refine SameB.step (fun k => ?_) (fun k => ?_) I (step (fun n => e2 (by have := n.2; rw [rd_lt hi, rd_lt hj] at this; exact this)))
        · simp only [spec_CanUnwind.l1, rd_lt hi, rd_lt hj]
          rw [if_pos (by omega), if_pos (by omega), if_pos (by omega), if_pos (by omega), if_pos (by omega), if_pos (by omega), if_pos (by omega), if_pos (by omega), if_pos e1, if_neg e2, wj]
        · simp only [impl_CanUnwind.l1, rdj]
          rw [if_pos (by omega), if_pos (by omega), if_pos (by omega), if_pos (by omega), if_pos (by omega), if_pos (by omega), if_pos (by omega), if_pos e1, if_neg (by omega), wj']
    · refine SameB.step (fun k => ?_) (fun k => ?_) I (step (fun n => e1 (by have := n.1; rw [rd_lt hi, rd_lt hj] at this; exact this)))
      · simp only [spec_CanUnwind.l1, rd_lt hi, rd_lt hj]
        rw [if_pos (by omega), if_pos (by omega), if_pos (by omega), if_pos (by omega), if_pos (by omega), if_pos (by omega), if_pos (by omega), if_pos (by omega), if_neg e1, wj]
      · simp only [impl_CanUnwind.l1, rdj]
        rw [if_pos (by omega), if_pos (by omega), if_pos (by omega), if_pos (by omega), if_pos (by omega), if_pos (by omega), if_pos (by omega), if_neg e1, wj']
theorem can_out (R O : List Int) (hO : O.length ≤ 8) (hr : ∀ x ∈ O, 0 ≤ x ∧ x < (R.length : Int)) (d : Nat) : ∀ i : Nat, i + d = O.length → SameB (fun k => spec_CanUnwind.l0 k R O (i : Int)) (fun k => impl_CanUnwind.l0 k R O O (O.length : Int) (i : Int)) (∀ i' j', i ≤ i' → i' < j' → j' < O.length → ¬ wrongP R O i' j') := by
  induction d with
  | zero =>
    intro i hi
    refine SameB.step (g' := fun _ => some (true, 0)) (f' := fun _ => some (true, 0)) (N := True) (fun k => ?_) (fun k => ?_) (SameB.now true (by simp)) ⟨fun _ i' j' h1 h2 h3 => by omega, fun _ => trivial⟩
    · simp only [spec_CanUnwind.l0]; rw [if_neg (by omega)]
    · simp only [impl_CanUnwind.l0]; rw [if_neg (by omega)]
  | succ d ih =>
    intro i hi
    have hil : i < O.length := by omega
    have wi : wrap64 ((i : Int) + 1) = ((i + 1 : Nat) : Int) := by rw [wr (by omega) (by omega)]; omega
    have z := can_in R O hO hr i hil _ (ih (i + 1) (by omega)) d (i + 1) (Nat.le_refl _) (by omega)
    rw [Nat.sub_self] at z
    refine SameB.step (fun k => ?_) (fun k => ?_) z ⟨fun n i' j' h1 h2 h3 => ?_, fun n => ⟨fun j' h1 h2 => n i j' (Nat.le_refl _) (by omega) h2, fun i' j' h1 h2 h3 => n i' j' (by omega) h2 h3⟩⟩
    · simp only [spec_CanUnwind.l0]; rw [if_pos (by omega), wi]
    · simp only [impl_CanUnwind.l0, rd_lt hil, wi, Int.toNat_natCast, Option.bind_some]
      rw [if_pos (by omega), if_pos (by omega), if_pos (by omega), if_pos (by omega), if_pos (by omega)]
      rfl
    · by_cases e : i' = i
      · rw [e]; exact n.1 j' (by omega) h3
      · exact n.2 i' j' (by omega) h2 h3

/-- Whether strands can come off in an order: both tell it. -/
theorem can_told (R O : List Int) (hR : R.length ≤ 8) (hT : toldC R = 0) (ho : isOrd R.length O = true) : SameB (fun k => spec_CanUnwind.f k R O) (fun k => impl_CanUnwind.f k R O) (∀ i j, i < j → j < O.length → ¬ wrongP R O i j) := by
  unfold spec_CanUnwind.f impl_CanUnwind.f
  have te := told_ev R (by omega)
  simp only [unwindCode_f R (by omega), Option.bind_some]
  rw [hT] at te
  obtain ⟨h1, h2, _⟩ := of_decide_eq_true ho
  have s := each_ev R.length (by omega) O (by omega)
  have i := isOrder_ev R.length (by omega) O (by omega)
  rw [ho] at s i
  obtain ⟨b, e1, e2, e3⟩ := can_out R O (by omega) (fun x hx => by have := h2 x hx; omega) O.length 0 (by omega)
  refine ⟨b, Ev.bind te ?_, ?_, e3.trans ⟨fun h i j a b => h i j (Nat.zero_le _) a b, fun h i j _ a b => h i j a b⟩⟩
  · simp only [if_true]
    exact Ev.bind s (by simp only [if_true]; exact e1)
  · simp only [hT, if_true]
    exact Ev.bind i (by simp only [if_true]; exact e2)
/-- The strands of a reel, the last one first: those below j. -/
def desc (l : List Int) (x : Int) : Nat → List Int
  | 0 => []
  | j + 1 => (if rd l (j : Int) = x then [(j : Int)] else []) ++ desc l x j
/-- The strands in the order in which they come off: reels from x on, d of them. -/
def offs (l : List Int) : Nat → Int → List Int
  | 0, _ => []
  | d + 1, x => desc l x l.length ++ offs l d (x + 1)
theorem desc_len (l : List Int) (x : Int) : ∀ j, (desc l x j).length ≤ j
  | 0 => by simp [desc]
  | j + 1 => by
    have := desc_len l x j
    simp only [desc, List.length_append]
    split <;> simp <;> omega
theorem desc_mem (l : List Int) (x p : Int) : ∀ j, p ∈ desc l x j ↔ ∃ n : Nat, p = (n : Int) ∧ n < j ∧ rd l (n : Int) = x
  | 0 => by simp [desc]
  | j + 1 => by
    simp only [desc, List.mem_append, desc_mem l x p j]
    constructor
    · rintro (h | ⟨n, a, b, c⟩)
      · split at h
        · rename_i hd; exact ⟨j, List.mem_singleton.1 h, by omega, hd⟩
        · simp at h
      · exact ⟨n, a, by omega, c⟩
    · rintro ⟨n, a, b, c⟩
      by_cases e : n = j
      · subst e; left; rw [if_pos c, a]; simp
      · exact .inr ⟨n, a, by omega, c⟩
theorem desc_down (l : List Int) (x : Int) : ∀ j, (desc l x j).Pairwise (fun a b => rd l a = rd l b ∧ b < a)
  | 0 => by simp [desc]
  | j + 1 => by
    simp only [desc]
    refine List.pairwise_append.2 ⟨by split <;> simp, desc_down l x j, ?_⟩
    intro a ha b hb
    split at ha
    · rename_i hd
      have := List.mem_singleton.1 ha
      subst this
      obtain ⟨n, e, h1, h2⟩ := (desc_mem l x b j).1 hb
      rw [e, hd, h2]; exact ⟨rfl, by omega⟩
    · simp at ha
theorem offs_mem (l : List Int) (p : Int) : ∀ d x, p ∈ offs l d x ↔ ∃ n : Nat, p = (n : Int) ∧ n < l.length ∧ x ≤ rd l (n : Int) ∧ rd l (n : Int) < x + d
  | 0, x => by
    constructor
    · intro h; simp [offs] at h
    · rintro ⟨n, _, _, h1, h2⟩; omega
  | d + 1, x => by
    simp only [offs, List.mem_append, desc_mem, offs_mem l p d (x + 1)]
    constructor
    · rintro (⟨n, a, b, c⟩ | ⟨n, a, b, c, e⟩)
      · exact ⟨n, a, b, by omega, by omega⟩
      · exact ⟨n, a, b, by omega, by omega⟩
    · rintro ⟨n, a, b, c, e⟩
      by_cases h : rd l (n : Int) = x
      · exact .inl ⟨n, a, b, h⟩
      · exact .inr ⟨n, a, b, by omega, by omega⟩
theorem offs_down (l : List Int) : ∀ d x, (offs l d x).Pairwise (fun a b => rd l a < rd l b ∨ (rd l a = rd l b ∧ b < a))
  | 0, x => by simp [offs]
  | d + 1, x => by
    simp only [offs]
    refine List.pairwise_append.2 ⟨(desc_down l x l.length).imp (fun h => .inr h), offs_down l d (x + 1), ?_⟩
    intro a ha b hb
    obtain ⟨n, e, _, h⟩ := (desc_mem l x a l.length).1 ha
    obtain ⟨m, e2, _, h2, _⟩ := (offs_mem l b d (x + 1)).1 hb
    left; rw [e, e2, h]; omega
theorem desc_count (l : List Int) (x : Int) : ∀ j, j ≤ l.length → (desc l x j).length = (l.take j).countP (· == x)
  | 0, _ => by simp [desc]
  | j + 1, h => by
    have hj : j < l.length := by omega
    simp only [desc, List.length_append, desc_count l x j (by omega)]
    rw [take_snoc l hj, List.countP_append, rd_lt hj]
    by_cases e : l[j] = x
    · simp [e]; omega
    · simp [e]
theorem count8 : ∀ (l : List Int), (∀ x ∈ l, 0 ≤ x ∧ x ≤ 7) → l.countP (· == 0) + (l.countP (· == 1) + (l.countP (· == 2) + (l.countP (· == 3) + (l.countP (· == 4) + (l.countP (· == 5) + (l.countP (· == 6) + l.countP (· == 7))))))) = l.length
  | [], _ => rfl
  | x :: l, h => by
    have ih := count8 l (fun y hy => h y (List.mem_cons_of_mem _ hy))
    have hx := h x List.mem_cons_self
    simp only [List.countP_cons, List.length_cons]
    have : x = 0 ∨ x = 1 ∨ x = 2 ∨ x = 3 ∨ x = 4 ∨ x = 5 ∨ x = 6 ∨ x = 7 := by omega
    rcases this with rfl | rfl | rfl | rfl | rfl | rfl | rfl | rfl <;> simp <;> omega
theorem offs_len (l : List Int) (h : ∀ x ∈ l, 0 ≤ x ∧ x ≤ 7) : (offs l 8 0).length = l.length := by
  have := count8 l h
  have e : offs l 8 0 = desc l 0 l.length ++ (desc l 1 l.length ++ (desc l 2 l.length ++ (desc l 3 l.length ++ (desc l 4 l.length ++ (desc l 5 l.length ++ (desc l 6 l.length ++ (desc l 7 l.length ++ []))))))) := rfl
  rw [e]
  simp only [List.length_append, List.length_nil, desc_count l _ l.length (Nat.le_refl _), List.take_length]
  omega
theorem off_in (l : List Int) (hl : l.length ≤ 8) (x : Int) (h0 : 0 ≤ x) (h1 : x < 8) (R : List Int × Int) (j : Nat) :
    ∀ out : List Int, j ≤ l.length → (out.length : Int) + j ≤ 8 * x + 8 →
    (Ev (fun k => spec_UnwindOrder.l0 k l (out ++ desc l x j) (x + 1)) R → Ev (fun k => spec_UnwindOrder.l1 k l out x ((j : Int) - 1)) R) ∧ (Ev (fun k => impl_UnwindOrder.l0 k l (out ++ desc l x j) (x + 1)) R → Ev (fun k => impl_UnwindOrder.l1 k l out x ((j : Int) - 1) x) R) := by
  induction j with
  | zero =>
    intro out hj ho
    simp only [desc, List.append_nil]
    refine ⟨fun r1 => Ev.step (fun k => ?_) r1, fun r2 => Ev.step (fun k => ?_) r2⟩
    · simp only [spec_UnwindOrder.l1]; rw [if_neg (by omega), wr (n := x + 1) (by omega) (by omega)]
    · simp only [impl_UnwindOrder.l1]; rw [if_neg (by omega), wr (n := x + 1) (by omega) (by omega)]
  | succ j ih =>
    intro out hj ho
    have e : ((j + 1 : Nat) : Int) - 1 = (j : Int) := by omega
    have hjl : j < l.length := by omega
    have w : wrap64 ((j : Int) - 1) = (j : Int) - 1 := wr (by omega) (by omega)
    rw [e]
    simp only [desc, rd_lt hjl]
    by_cases h : l[j] = x
    · obtain ⟨i1, i2⟩ := ih (out ++ [(j : Int)]) (by omega) (by simp; omega)
      rw [if_pos h, ← List.append_assoc]
      refine ⟨fun r1 => Ev.step (fun k => ?_) (i1 r1), fun r2 => Ev.step (fun k => ?_) (i2 r2)⟩
      · simp only [spec_UnwindOrder.l1]; rw [if_pos (by omega), if_pos (by omega), if_pos (by omega), rd_lt hjl, if_pos h, if_pos (by omega), w]
      · simp only [impl_UnwindOrder.l1]; rw [if_pos (by omega), if_pos (by omega), if_pos (by omega), rd_lt hjl, if_pos h, if_pos (by omega), w]
    · obtain ⟨i1, i2⟩ := ih out (by omega) (by omega)
      rw [if_neg h, List.nil_append]
      refine ⟨fun r1 => Ev.step (fun k => ?_) (i1 r1), fun r2 => Ev.step (fun k => ?_) (i2 r2)⟩
      · simp only [spec_UnwindOrder.l1]; rw [if_pos (by omega), if_pos (by omega), if_pos (by omega), rd_lt hjl, if_neg h, w]
      · simp only [impl_UnwindOrder.l1]; rw [if_pos (by omega), if_pos (by omega), if_pos (by omega), rd_lt hjl, if_neg h, w]
theorem off_out (l : List Int) (hl : l.length ≤ 8) (d : Nat) : ∀ (x : Int) (out : List Int), 0 ≤ x → x + d = 8 → (out.length : Int) ≤ 8 * x →
    Ev (fun k => spec_UnwindOrder.l0 k l out x) (out ++ offs l d x, 0) ∧ Ev (fun k => impl_UnwindOrder.l0 k l out x) (out ++ offs l d x, 0) := by
  induction d with
  | zero =>
    intro x out h0 hx ho
    simp only [offs, List.append_nil]
    refine ⟨Ev.step (f := fun _ => some (out, 0)) (fun k => ?_) (Ev.now _), Ev.step (f := fun _ => some (out, 0)) (fun k => ?_) (Ev.now _)⟩
    · simp only [spec_UnwindOrder.l0]; rw [if_neg (by omega)]
    · simp only [impl_UnwindOrder.l0]; rw [if_neg (by omega)]
  | succ d ih =>
    intro x out h0 hx ho
    have dl := desc_len l x l.length
    obtain ⟨i1, i2⟩ := off_in l hl x h0 (by omega) (out ++ offs l (d + 1) x, 0) l.length out (Nat.le_refl _) (by omega)
    obtain ⟨j1, j2⟩ := ih (x + 1) (out ++ desc l x l.length) (by omega) (by omega) (by simp; omega)
    have w : wrap64 ((l.length : Int) - 1) = (l.length : Int) - 1 := wr (by omega) (by omega)
    rw [List.append_assoc] at j1 j2
    refine ⟨Ev.step (fun k => ?_) (i1 j1), Ev.step (fun k => ?_) (i2 j2)⟩
    · simp only [spec_UnwindOrder.l0]; rw [if_pos (by omega), w]
    · simp only [impl_UnwindOrder.l0]; rw [if_pos (by omega), w]
theorem off_told (l : List Int) (hl : l.length ≤ 8) (hT : toldC l = 0) : Ev (fun k => spec_UnwindOrder.f k l) (offs l 8 0, 0) ∧ Ev (fun k => impl_UnwindOrder.f k l) (offs l 8 0, 0) := by
  unfold spec_UnwindOrder.f impl_UnwindOrder.f
  obtain ⟨e1, e2⟩ := off_out l hl 8 0 [] (by omega) (by omega) (by simp)
  have te := told_ev l (by omega)
  rw [hT] at te
  refine ⟨Ev.bind te (by simp only [if_true]; simpa using e1), ?_⟩
  simp only [unwindCode_f l (by omega), hT, Option.bind_some, if_true]
  simpa using e2
theorem a2Long_f (l m : List Int) : laws_a2Long.f l m = some (decide ((l.length : Int) > 3000 ∨ (m.length : Int) > 3000)) := by
  unfold laws_a2Long.f
  by_cases h : (l.length : Int) > 3000 <;> simp [h]
theorem u8 {x : Int} (h : (Lit.int .u8 x).wf = true) : 0 ≤ x ∧ x ≤ 255 := by
  simp only [Lit.wf, IntKind.min, IntKind.max, IntKind.signed, IntKind.bits, Bool.and_eq_true, decide_eq_true_eq, Bool.false_eq_true, if_false] at h
  omega
theorem a2At_f (l : List Int) (i m : Int) (hl : ∀ x ∈ l, (Lit.int .u8 x).wf = true) (h0 : 0 ≤ i) (h1 : 1 ≤ m) : ∃ t, laws_a2At.f l i m = some t ∧ 0 ≤ t ∧ t < m ∧ t ≤ 255 := by
  unfold laws_a2At.f
  by_cases h : i ≥ (l.length : Int)
  · exact ⟨0, by rw [if_pos h], by omega, by omega, by omega⟩
  · have hi : i.toNat < l.length := by omega
    have e : rd l i = l[i.toNat] := by unfold rd; simp [List.getD, hi]
    have hb := u8 (hl l[i.toNat] (List.getElem_mem _))
    have w : wrap64 (rd l i) = rd l i := by rw [e]; exact wr (by omega) (by omega)
    have t0 : Int.tmod (rd l i) m = rd l i % m := Int.tmod_eq_emod_of_nonneg (by rw [e]; omega)
    refine ⟨rd l i % m, by rw [if_neg h, if_neg (by omega), if_pos h0, if_pos (by omega), if_neg (by omega), w, t0], Int.emod_nonneg _ (by omega), Int.emod_lt_of_pos _ (by omega), ?_⟩
    have q : 0 ≤ rd l i / m := Int.ediv_nonneg (by rw [e]; omega) (by omega)
    have := Int.emod_add_mul_ediv (rd l i) m
    have : 0 ≤ m * (rd l i / m) := Int.mul_nonneg (by omega) q
    omega
theorem and255 (x : Int) : 0 ≤ Go.bits .and .u64 x 255 ∧ Go.bits .and .u64 x 255 ≤ 255 := by
  have h : (BitVec.ofInt 64 x &&& BitVec.ofInt 64 255).toNat ≤ 255 := by
    rw [BitVec.toNat_and]
    exact Nat.le_trans Nat.and_le_right (by decide)
  show 0 ≤ IntKind.u64.wrap (((BitVec.ofInt 64 x &&& BitVec.ofInt 64 255).toNat : Nat) : Int) ∧ IntKind.u64.wrap (((BitVec.ofInt 64 x &&& BitVec.ofInt 64 255).toNat : Nat) : Int) ≤ 255
  generalize (BitVec.ofInt 64 x &&& BitVec.ofInt 64 255).toNat = n at *
  simp only [IntKind.wrap, IntKind.bits, IntKind.signed]
  simp
  omega
/-- A row of bytes. -/
def bytesL (l : List Int) : Prop := (l.length : Int) ≤ 140737488351232 ∧ ∀ x ∈ l, 0 ≤ x ∧ x ≤ 255
theorem next_f (s : List Int) (hs : bytesL s) (p d : Int) (h0 : 0 ≤ p) (h1 : p ≤ 4611686018427387904) : ∃ v d', spec_l00Src_next.f s p d = some (v, p + 1, d') ∧ 0 ≤ v ∧ v ≤ 255 := by
  have wp : wrap64 (p + 1) = p + 1 := wr (by omega) (by omega)
  have wa : ∀ x, wrap64 (Go.bits .and .u64 x 255) = Go.bits .and .u64 x 255 := fun x => by have := and255 x; exact wr (by omega) (by omega)
  unfold spec_l00Src_next.f
  rw [wp]
  by_cases hl : p < (s.length : Int)
  · have hp : p.toNat < s.length := by omega
    have e : rd s p = s[p.toNat] := by unfold rd; simp [List.getD, hp]
    have hb := hs.2 _ (List.getElem_mem hp)
    have w : wrap64 (rd s p) = rd s p := wr (by omega) (by omega)
    rw [if_pos hl, if_pos h0]
    by_cases h2 : p + 1 ≤ (s.length : Int)
    · rw [if_pos h2, w]; exact ⟨_, _, rfl, by omega, by omega⟩
    · omega
  · rw [if_neg hl]
    have h2 : ¬ p + 1 ≤ (s.length : Int) := by omega
    rw [if_neg h2, wa]
    exact ⟨_, _, rfl, (and255 _).1, (and255 _).2⟩
theorem pick_f (s : List Int) (hs : bytesL s) (p d n : Int) (h0 : 0 ≤ p) (h1 : p ≤ 4611686018427387903) (n1 : 1 ≤ n) : ∃ v p' d', spec_l00Src_pick.f s p d n = some (v, p', d') ∧ 0 ≤ v ∧ v < n ∧ p ≤ p' ∧ p' ≤ p + 2 := by
  unfold spec_l00Src_pick.f
  by_cases hn : n ≤ 1
  · rw [if_pos hn]; exact ⟨0, p, d, rfl, by omega, by omega, by omega, by omega⟩
  · rw [if_neg hn]
    obtain ⟨v, d', e, a, b⟩ := next_f s hs p d h0 (by omega)
    rw [e]
    simp only [Option.bind_some]
    by_cases h2 : n > 200
    · rw [if_pos h2]
      obtain ⟨v2, d2, e2, a2, b2⟩ := next_f s hs (p + 1) d' (by omega) (by omega)
      rw [e2]
      simp only [Option.bind_some]
      rw [if_neg (by omega), wr (n := v * 256) (by omega) (by omega), wr (n := v * 256 + v2) (by omega) (by omega)]
      have t0 : Int.tmod (v * 256 + v2) n = (v * 256 + v2) % n := Int.tmod_eq_emod_of_nonneg (by omega)
      exact ⟨_, _, _, rfl, by rw [t0]; exact Int.emod_nonneg _ (by omega), by rw [t0]; exact Int.emod_lt_of_pos _ (by omega), by omega, by omega⟩
    · rw [if_neg h2, if_neg (by omega)]
      have t0 : Int.tmod v n = v % n := Int.tmod_eq_emod_of_nonneg (by omega)
      exact ⟨_, _, _, rfl, by rw [t0]; exact Int.emod_nonneg _ (by omega), by rw [t0]; exact Int.emod_lt_of_pos _ (by omega), by omega, by omega⟩
theorem own_f (l : List Int) (h : l.length ≤ 1048576) : spec_l00Own.f l = some l := by
  unfold spec_l00Own.f
  simp only [Option.bind_some, List.length_nil, List.nil_append]
  rw [if_pos (by omega)]
theorem ord_put {i : Nat} {l : List Int} (h : isOrd i l = true) (a : Nat) (ha : a ≤ i) : isOrd (i + 1) (l.take a ++ [(i : Int)] ++ l.drop a) = true := by
  obtain ⟨h1, h2, h3⟩ := of_decide_eq_true h
  refine decide_eq_true ⟨by simp; omega, ?_, ?_⟩
  · intro x hx
    simp only [List.mem_append, List.mem_singleton] at hx
    rcases hx with (hx | rfl) | hx
    · have := h2 x (List.mem_of_mem_take hx); omega
    · omega
    · have := h2 x (List.mem_of_mem_drop hx); omega
  · have hni : (i : Int) ∉ l := fun hm => by have := h2 _ hm; omega
    have hsplit : (l.take a ++ l.drop a).Nodup := by rw [List.take_append_drop]; exact h3
    obtain ⟨n1, n2, n3⟩ := List.nodup_append.1 hsplit
    rw [List.append_assoc]
    refine List.nodup_append.2 ⟨n1, List.nodup_append.2 ⟨by simp, n2, ?_⟩, ?_⟩
    · intro x hx y hy e
      rw [List.mem_singleton.1 hx] at e
      exact hni (e ▸ List.mem_of_mem_drop hy)
    · intro x hx y hy e
      rcases List.mem_append.1 hy with hy | hy
      · rw [List.mem_singleton.1 hy] at e
        exact hni (e ▸ List.mem_of_mem_take hx)
      · exact n3 x hx y hy e
theorem order_loop (s : List Int) (hs : bytesL s) (n : Nat) (hn : n ≤ 8) (d : Nat) : ∀ (i : Nat) (out : List Int) (p q : Int), i + d = n → isOrd i out = true → 0 ≤ p → p ≤ 2 * i →
    ∃ R, Ev (fun k => spec_A2Order.l0 k (n : Int) out (i : Int) s p q) R ∧ isOrd n R = true := by
  induction d with
  | zero =>
    intro i out p q hi ho h0 h1
    have : i = n := by omega
    subst this
    refine ⟨out, Ev.step (f := fun _ => some out) (fun k => ?_) (Ev.now _), ho⟩
    simp only [spec_A2Order.l0]; rw [if_neg (by omega)]
  | succ d ih =>
    intro i out p q hi ho h0 h1
    have wi : wrap64 ((i : Int) + 1) = ((i + 1 : Nat) : Int) := by rw [wr (by omega) (by omega)]; omega
    obtain ⟨v, p', q', e, a, b, c, f⟩ := pick_f s hs p q ((i + 1 : Nat) : Int) h0 (by omega) (by omega)
    obtain ⟨o1, _, _⟩ := of_decide_eq_true ho
    obtain ⟨R, r1, r2⟩ := ih (i + 1) (out.take v.toNat ++ [(i : Int)] ++ out.drop v.toNat) p' q' (by omega) (ord_put ho v.toNat (by omega)) (by omega) (by omega)
    refine ⟨R, Ev.step (fun k => ?_) r1, r2⟩
    have c1 : (i : Int) < (n : Int) := by omega
    have c2 : v ≤ (out.length : Int) := by omega
    have c3 : (out.take v.toNat).length < 17592186044416 := by simp; omega
    have c4 : (out.take v.toNat ++ [(i : Int)]).length + (out.drop v.toNat).length < 17592186044416 := by simp; omega
    simp only [spec_A2Order.l0, wi, e, Option.bind_some]
    rw [if_pos c1, if_pos a, if_pos c2, own_f _ (by simp; omega)]
    simp only [Option.bind_some]
    rw [if_pos c3, if_pos c4]
theorem a2Order_ev (s : List Int) (hs : bytesL s) (n : Nat) (hn : n ≤ 8) : ∃ R, Ev (fun k => spec_A2Order.f k s (n : Int)) R ∧ isOrd n R = true := by
  unfold spec_A2Order.f
  have e : spec_l00From.f s = some (s, 0, 0) := rfl
  simp only [e, Option.bind_some]
  exact order_loop s hs n hn n 0 [] 0 0 (by omega) (by decide) (by omega) (by omega)
theorem same_loop (a : List Int) (hn : (a.length : Int) ≤ 4611686018427387904) (d : Nat) : ∀ (i : Nat), i + d = a.length → Ev (fun k => spec_l00Same.l0 k a a (i : Int)) true := by
  induction d with
  | zero =>
    intro i hi
    refine Ev.step (f := fun _ => some true) (fun k => ?_) (Ev.now _)
    simp only [spec_l00Same.l0]; rw [if_neg (by omega)]
  | succ d ih =>
    intro i hi
    refine Ev.step (fun k => ?_) (ih (i + 1) (by omega))
    simp only [spec_l00Same.l0, if_true]
    rw [if_pos (by omega), if_pos (by omega), if_pos (by omega), wr (n := (i : Int) + 1) (by omega) (by omega)]; rfl
theorem same_self (a : List Int) (hn : (a.length : Int) ≤ 4611686018427387904) : Ev (fun k => spec_A2Same.f k a a) true := by
  unfold spec_A2Same.f spec_l00Same.f
  simp only [if_true]
  exact Ev.bind (same_loop a hn a.length 0 (by omega)) (Ev.now _)
theorem posn_at {O : List Int} (h : O.Nodup) (i : Nat) (hi : i < O.length) : posn O O[i] = i := by
  obtain ⟨p1, p2⟩ := posn_mem O O[i] (List.getElem_mem hi)
  have hp := List.pairwise_iff_getElem.1 h
  rcases Nat.lt_trichotomy (posn O O[i]) i with h1 | h1 | h1
  · exact absurd p2 (hp _ _ p1 hi h1)
  · exact h1
  · exact absurd p2.symm (hp _ _ hi p1 h1)
/-- What is known of the order, its places and its piles. -/
structure Known (n : Nat) (O out L : List Int) : Prop where
  n8 : n ≤ 8
  ol : O.length = n
  rng : ∀ i, i < n → 0 ≤ rd O (i : Int) ∧ rd O (i : Int) < (n : Int)
  at_ : ∀ i : Nat, i < n → ((posn O (rd O (i : Int)) : Nat) : Int) = (i : Int)
  back : ∀ v : Nat, v < n → posn O (v : Int) < n ∧ rd O ((posn O (v : Int) : Nat) : Int) = (v : Int)
  ne : ∀ i j : Nat, i < j → j < n → rd O (i : Int) ≠ rd O (j : Int)
  pl : Piles (fun j => posn O (j : Int)) n out L
theorem known_of {n : Nat} (hn : n ≤ 8) {O : List Int} (h : isOrd n O = true) : ∃ out L, Known n O out L ∧ pil O O.length 0 [] [] = (out, (L.length : Int), 0) := by
  obtain ⟨h1, h2, h3⟩ := of_decide_eq_true h
  have hv : ∀ v : Nat, v < n → (v : Int) ∈ O := fun v hv => ord_all h v hv
  have hp := List.pairwise_iff_getElem.1 h3
  have bk : ∀ v : Nat, v < n → posn O (v : Int) < n ∧ rd O ((posn O (v : Int) : Nat) : Int) = (v : Int) := by
    intro v hvn
    obtain ⟨p1, p2⟩ := posn_mem O (v : Int) (hv v hvn)
    exact ⟨by omega, by rw [rd_lt p1]; exact p2⟩
  have hq : ∀ i j, i < O.length → j < i → posn O (j : Int) ≠ posn O (i : Int) := by
    intro i j hi hj e
    have a := (bk i (by omega)).2
    have b := (bk j (by omega)).2
    rw [e, a] at b
    omega
  obtain ⟨out, L, e, hP⟩ := pil_piles O hq O.length 0 [] [] (by omega) (Piles.start _)
  refine ⟨out, L, ⟨hn, h1, ?_, ?_, bk, ?_, h1 ▸ hP⟩, e⟩
  · intro i hi
    rw [rd_lt (show i < O.length by omega)]
    have := h2 _ (List.getElem_mem (show i < O.length by omega)); omega
  · intro i hi
    rw [rd_lt (show i < O.length by omega), posn_at h3 i (by omega)]
  · intro i j hij hj
    rw [rd_lt (show i < O.length by omega), rd_lt (show j < O.length by omega)]
    exact hp i j (by omega) (by omega) hij
set_option linter.unusedSectionVars false
section
variable {n : Nat} {O out L : List Int} (K : Known n O out L)
include K
/-- The longest rising run that ends at place k. -/
theorem K_nat (i : Nat) (hi : i < n) : ∃ a : Nat, rd O (i : Int) = (a : Int) ∧ a < n ∧ posn O (a : Int) = i := by
  obtain ⟨h0, h1⟩ := K.rng i hi
  obtain ⟨a, ha⟩ := Int.eq_ofNat_of_zero_le h0
  have := K.at_ i hi
  rw [ha] at this
  exact ⟨a, ha, by omega, by omega⟩
theorem K_rise (i j : Nat) (hi : i < n) (hj : j < i) (h : rd O (j : Int) < rd O (i : Int)) : rd out (rd O (j : Int)) < rd out (rd O (i : Int)) := by
  obtain ⟨a, ea, ha, pa⟩ := K_nat K i hi
  obtain ⟨b, eb, hb, pb⟩ := K_nat K j (by omega)
  rw [ea, eb] at h ⊢
  exact K.pl.all a b ha (by omega) (show posn O (b : Int) < posn O (a : Int) by omega)
theorem K_from (i : Nat) (hi : i < n) : rd out (rd O (i : Int)) = 0 ∨ ∃ j, j < i ∧ rd O (j : Int) < rd O (i : Int) ∧ rd out (rd O (j : Int)) + 1 = rd out (rd O (i : Int)) := by
  obtain ⟨a, ea, ha, pa⟩ := K_nat K i hi
  rw [ea]
  rcases K.pl.some a ha with h | ⟨b, hb, hq, he⟩
  · exact .inl h
  · have bb := K.back b (by omega)
    replace hq : posn O (b : Int) < posn O (a : Int) := hq
    exact .inr ⟨posn O (b : Int), by omega, by rw [bb.2]; omega, by rw [bb.2]; exact he⟩
theorem K_bound (i : Nat) (hi : i < n) : 0 ≤ rd out (rd O (i : Int)) ∧ rd out (rd O (i : Int)) < (L.length : Int) := by
  obtain ⟨a, ea, ha, _⟩ := K_nat K i hi
  obtain ⟨p, e, h, _⟩ := K.pl.low a ha
  rw [ea, e]; omega
theorem K_out (x : Int) (hx : x ∈ out) : 0 ≤ x ∧ x ≤ 7 := by
  obtain ⟨j, hj, rfl⟩ := List.mem_iff_getElem.1 hx
  have hl := K.pl.len
  have hc := K.pl.cnt
  have hn := K.n8
  obtain ⟨p, e, h, _⟩ := K.pl.low j (by omega)
  rw [rd_lt hj] at e
  omega
theorem K_told : toldC out = 0 := by
  unfold toldC
  have hl := K.pl.len
  have hn := K.n8
  rw [if_neg (by omega), if_pos]
  rw [List.all_eq_true]
  intro x hx
  exact decide_eq_true (K_out K x hx)
theorem K_can : ∀ i j, i < j → j < O.length → ¬ wrongP out O i j := by
  intro i j hij hj ⟨h1, h2⟩
  have := K_rise K j i (by have := K.ol; omega) hij h2
  omega
theorem K_off : isOrd out.length (offs out 8 0) = true := by
  have hl := K.pl.len
  have hlen := offs_len out (K_out K)
  refine decide_eq_true ⟨hlen, ?_, ?_⟩
  · intro x hx
    obtain ⟨m, e, h, _⟩ := (offs_mem out x 8 0).1 hx
    omega
  · exact (offs_down out 8 0).imp (fun h => by
      rintro rfl
      rcases h with h | ⟨_, h⟩ <;> omega)
theorem K_offcan : ∀ i j, i < j → j < (offs out 8 0).length → ¬ wrongP out (offs out 8 0) i j := by
  intro i j hij hj ⟨h1, h2⟩
  have := List.pairwise_iff_getElem.1 (offs_down out 8 0) i j (by omega) hj hij
  rw [rd_lt (show i < (offs out 8 0).length by omega), rd_lt hj] at h1 h2
  rcases this with h | ⟨_, h⟩ <;> omega
/-- The inner loop of the longest run. -/
theorem dp_in (c : List Int) (f m : Int) (i : Nat) (hi : i < n) (d : Nat) : ∀ (j : Nat) (X : List Int), j + d = i → X.length = n → (∀ k : Nat, k < i → rd X (k : Int) = rd out (rd O (k : Int)) + 1) → (1 ≤ rd X (i : Int) ∧ rd X (i : Int) ≤ rd out (rd O (i : Int)) + 1) → (∀ k : Nat, k < j → rd O (k : Int) < rd O (i : Int) → rd out (rd O (k : Int)) + 2 ≤ rd X (i : Int)) →
    (∀ X' : List Int, X'.length = n → (∀ k : Nat, k < i + 1 → rd X' (k : Int) = rd out (rd O (k : Int)) + 1) → Ev (fun k => laws_FnUnwound.l0 k c (n : Int) O f X' (mx m (rd out (rd O (i : Int)) + 1)) ((i + 1 : Nat) : Int)) true) →
    Ev (fun k => laws_FnUnwound.l1 k c (n : Int) O f X m (i : Int) (j : Int)) true := by
  have hn8 := K.n8
  have hol := K.ol
  induction d with
  | zero =>
    intro j X hj hX hold hv hin next
    have : j = i := by omega
    subst this
    have e : rd X (j : Int) = rd out (rd O (j : Int)) + 1 := by
      rcases K_from K j hi with h | ⟨b, b1, b2, b3⟩
      · omega
      · have := hin b b1 b2; omega
    have wi : wrap64 ((j : Int) + 1) = ((j + 1 : Nat) : Int) := by rw [wr (by omega) (by omega)]; omega
    refine Ev.step (fun k => ?_) (next X hX (fun k hk => ?_))
    · simp only [laws_FnUnwound.l1]
      rw [if_neg (by omega), if_pos (by omega), if_pos (by omega), e, wi]
    · by_cases ek : k = j
      · subst ek; exact e
      · exact hold k (by omega)
  | succ d ih =>
    intro j X hj hX hold hv hin next
    have hjn : j < n := by omega
    have wj : wrap64 ((j : Int) + 1) = ((j + 1 : Nat) : Int) := by rw [wr (by omega) (by omega)]; omega
    have hji : j < i := by omega
    have ej := hold j hji
    have bj := K_bound K j hjn
    have hc := K.pl.cnt
    have c1 : (j : Int) < (i : Int) := by omega
    have c2 : (0 : Int) ≤ (j : Int) := by omega
    have c3 : (j : Int) < (O.length : Int) := by omega
    have c4 : (0 : Int) ≤ (i : Int) := by omega
    have c5 : (i : Int) < (O.length : Int) := by omega
    have c6 : (i : Int) < (X.length : Int) := by omega
    have c7 : (j : Int) < (X.length : Int) := by omega
    by_cases hlt : rd O (j : Int) < rd O (i : Int)
    · have hr := K_rise K i j hi hji hlt
      have wv : wrap64 (rd X (j : Int) + 1) = rd out (rd O (j : Int)) + 2 := by rw [ej, wr (by omega) (by omega)]; omega
      have hset : ∀ k : Nat, rd (X.set i (mx (rd X (i : Int)) (rd out (rd O (j : Int)) + 2))) (k : Int) = if k = i then mx (rd X (i : Int)) (rd out (rd O (j : Int)) + 2) else rd X (k : Int) := fun k => rd_set X _ i k (by omega)
      have z := ih (j + 1) (X.set i (mx (rd X (i : Int)) (rd out (rd O (j : Int)) + 2))) (by omega) (by simpa using hX) (fun k hk => by rw [hset, if_neg (by omega)]; exact hold k hk) (by rw [hset, if_pos rfl]; unfold mx; split <;> omega) (fun k hk hl => by
        rw [hset, if_pos rfl]
        by_cases e : k = j
        · subst e; unfold mx; split <;> omega
        · have := hin k (by omega) hl
          unfold mx; split <;> omega) next
      refine Ev.step (fun k => ?_) z
      simp only [laws_FnUnwound.l1]
      rw [if_pos c1, if_pos c2, if_pos c3, if_pos c4, if_pos c5, if_pos hlt, if_pos c6, if_pos c7, wv, wj, Int.toNat_natCast]
    · refine Ev.step (fun k => ?_) (ih (j + 1) X (by omega) hX hold hv (fun k hk hl => by
        by_cases e : k = j
        · subst e; exact absurd hl hlt
        · exact hin k (by omega) hl) next)
      simp only [laws_FnUnwound.l1]
      rw [if_pos c1, if_pos c2, if_pos c3, if_pos c4, if_pos c5, if_neg hlt, wj]
theorem dp_out (c : List Int) (next : Ev (fun k => laws_FnUnwound.l2 k c (n : Int) O ([] : List Int) 0) true) (d : Nat) : ∀ (i : Nat) (X : List Int) (m : Int), i + d = n → X.length = n → (∀ k : Nat, k < i → rd X (k : Int) = rd out (rd O (k : Int)) + 1) → (∀ k : Nat, k < i → rd out (rd O (k : Int)) + 1 ≤ m) → (0 ≤ m ∧ m ≤ (L.length : Int)) →
    Ev (fun k => laws_FnUnwound.l0 k c (n : Int) O (L.length : Int) X m (i : Int)) true := by
  have hn8 := K.n8
  have hol := K.ol
  have hc := K.pl.cnt
  induction d with
  | zero =>
    intro i X m hi hX hold hm hb
    have : i = n := by omega
    subst this
    have e : m = (L.length : Int) := by
      by_cases h0 : L.length = 0
      · omega
      · obtain ⟨j, hj, e1, _⟩ := K.pl.top (L.length - 1) (by omega)
        obtain ⟨b1, b2⟩ := K.back j hj
        have := hm _ b1
        rw [b2, e1] at this
        omega
    refine Ev.step (fun k => ?_) next
    simp only [laws_FnUnwound.l0]
    rw [if_neg (by omega), if_pos e]
  | succ d ih =>
    intro i X m hi hX hold hm hb
    have hin : i < n := by omega
    have hset : ∀ k : Nat, rd (X.set i 1) (k : Int) = if k = i then 1 else rd X (k : Int) := fun k => rd_set X _ i k (by omega)
    have bi := K_bound K i hin
    have z := dp_in K c (L.length : Int) m i hin i 0 (X.set i 1) (by omega) (by simpa using hX) (fun k hk => by rw [hset, if_neg (by omega)]; exact hold k hk) (by rw [hset, if_pos rfl]; omega) (fun k hk => by omega) (fun X' hX' hold' => ih (i + 1) X' _ (by omega) hX' hold' (fun k hk => by
        by_cases e : k = i
        · subst e; unfold mx; split <;> omega
        · have := hm k (by omega)
          unfold mx; split <;> omega) (by unfold mx; split <;> omega))
    refine Ev.step (fun k => ?_) z
    simp only [laws_FnUnwound.l0]
    rw [if_pos (by omega), if_pos (by omega), if_pos (by omega), Int.toNat_natCast]; rfl
/-- The last loops tell whether strands can come off. -/
theorem fine_in (W : List Int) (hW : W.length = n) (b : Bool) (i : Nat) (hi : i < n) (P : Prop) (next : ∀ x : Bool, (x = true ↔ P ∧ ∀ j : Nat, i < j → j < n → ¬ wrongP W O i j) → Ev (fun k => laws_FnUnwound.l3 k (n : Int) O W b x ((i + 1 : Nat) : Int)) true) (d : Nat) : ∀ (j : Nat) (x : Bool), i < j → j + d = n → (x = true ↔ P ∧ ∀ j' : Nat, i < j' → j' < j → ¬ wrongP W O i j') →
    Ev (fun k => laws_FnUnwound.l4 k (n : Int) O W b x (i : Int) (j : Int)) true := by
  have hn8 := K.n8
  have hol := K.ol
  have wi : wrap64 ((i : Int) + 1) = ((i + 1 : Nat) : Int) := by rw [wr (by omega) (by omega)]; omega
  induction d with
  | zero =>
    intro j x hij hj hx
    have : j = n := by omega
    subst this
    refine Ev.step (fun k => ?_) (next x hx)
    simp only [laws_FnUnwound.l4]
    rw [if_neg (by omega), wi]
  | succ d ih =>
    intro j x hij hj hx
    have hjn : j < n := by omega
    have wj : wrap64 ((j : Int) + 1) = ((j + 1 : Nat) : Int) := by rw [wr (by omega) (by omega)]; omega
    obtain ⟨ri0, ri1⟩ := K.rng i hi
    obtain ⟨rj0, rj1⟩ := K.rng j hjn
    have hne := K.ne i j hij hjn
    have ext : ∀ y : Bool, (y = true ↔ (x = true ∧ ¬ wrongP W O i j)) → (y = true ↔ P ∧ ∀ j' : Nat, i < j' → j' < j + 1 → ¬ wrongP W O i j') := by
      intro y hy
      rw [hy, hx]
      constructor
      · rintro ⟨⟨p, h⟩, h2⟩
        refine ⟨p, fun j' a c => ?_⟩
        by_cases e : j' = j
        · rw [e]; exact h2
        · exact h j' a (by omega)
      · rintro ⟨p, h⟩
        exact ⟨⟨p, fun j' a c => h j' a (by omega)⟩, h j hij (by omega)⟩
    have c1 : (j : Int) < (n : Int) := by omega
    have c2 : (0 : Int) ≤ (i : Int) := by omega
    have c3 : (i : Int) < (O.length : Int) := by omega
    have c4 : rd O (i : Int) < (W.length : Int) := by omega
    have c5 : (0 : Int) ≤ (j : Int) := by omega
    have c6 : (j : Int) < (O.length : Int) := by omega
    have c7 : rd O (j : Int) < (W.length : Int) := by omega
    cases x with
    | false =>
      refine Ev.step (fun k => ?_) (ih (j + 1) false (by omega) (by omega) (ext false (by simp)))
      simp only [laws_FnUnwound.l4]
      rw [if_pos c1, if_neg (by simp), wj]
    | true =>
      by_cases he : rd W (rd O (i : Int)) = rd W (rd O (j : Int))
      · refine Ev.step (fun k => ?_) (ih (j + 1) (decide (rd O (i : Int) > rd O (j : Int))) (by omega) (by omega) (ext _ (by
          rw [decide_eq_true_eq]
          constructor
          · intro h; exact ⟨rfl, fun z => by have := z.2; omega⟩
          · rintro ⟨_, h⟩
            have : ¬ rd O (i : Int) < rd O (j : Int) := fun z => h ⟨he, z⟩
            omega)))
        simp only [laws_FnUnwound.l4]
        rw [if_pos c1, if_pos trivial, if_pos c2, if_pos c3, if_pos ri0, if_pos c4, if_pos c5, if_pos c6, if_pos rj0, if_pos c7, if_pos he, wj]
      · refine Ev.step (fun k => ?_) (ih (j + 1) true (by omega) (by omega) (ext _ (by
          constructor
          · intro _; exact ⟨rfl, fun z => he z.1⟩
          · intro _; rfl)))
        simp only [laws_FnUnwound.l4]
        rw [if_pos c1, if_pos trivial, if_pos c2, if_pos c3, if_pos ri0, if_pos c4, if_pos c5, if_pos c6, if_pos rj0, if_pos c7, if_neg he, wj]
theorem fine_out (W : List Int) (hW : W.length = n) (b : Bool) (hb : b = true ↔ ∀ i j, i < j → j < O.length → ¬ wrongP W O i j) (d : Nat) : ∀ (i : Nat) (x : Bool), i + d = n → (x = true ↔ ∀ i' j' : Nat, i' < i → i' < j' → j' < n → ¬ wrongP W O i' j') →
    Ev (fun k => laws_FnUnwound.l3 k (n : Int) O W b x (i : Int)) true := by
  have hn8 := K.n8
  have hol := K.ol
  induction d with
  | zero =>
    intro i x hi hx
    have : i = n := by omega
    subst this
    have e : x = b := by
      rw [Bool.eq_iff_iff, hx, hb]
      constructor
      · intro h i' j' a c; exact h i' j' (by omega) a (by omega)
      · intro h i' j' _ a c; exact h i' j' a (by omega)
    refine Ev.step (f := fun _ => some (x == b)) (fun k => ?_) (ev_id (Ev.now _) (by rw [e]; simp))
    simp only [laws_FnUnwound.l3]; rw [if_neg (by omega)]
  | succ d ih =>
    intro i x hi hx
    have hin : i < n := by omega
    have wi : wrap64 ((i : Int) + 1) = ((i + 1 : Nat) : Int) := by rw [wr (by omega) (by omega)]; omega
    refine Ev.step (fun k => ?_) (fine_in K W hW b i hin (∀ i' j' : Nat, i' < i → i' < j' → j' < n → ¬ wrongP W O i' j') (fun y hy => ih (i + 1) y (by omega) (hy.trans ⟨?_, ?_⟩)) d (i + 1) x (by omega) (by omega) (hx.trans ⟨fun h => ⟨h, fun j' _ _ => by omega⟩, fun h => h.1⟩))
    · simp only [laws_FnUnwound.l3]; rw [if_pos (by omega), wi]
    · rintro ⟨h1, h2⟩ i' j' a b' c
      by_cases e : i' = i
      · subst e; exact h2 j' b' c
      · exact h1 i' j' (by omega) b' c
    · intro h
      exact ⟨fun i' j' a b' c => h i' j' (by omega) b' c, fun j' a b' => h i j' (by omega) a b'⟩
theorem own_loop (c : List Int) (hc : ∀ x ∈ c, (Lit.int .u8 x).wf = true) (ho : isOrd n O = true) (d : Nat) : ∀ (i : Nat) (W : List Int), i + d = n → W.length = i → (∀ x ∈ W, 0 ≤ x ∧ x ≤ 7) →
    Ev (fun k => laws_FnUnwound.l2 k c (n : Int) O W (i : Int)) true := by
  have hn8 := K.n8
  have hol := K.ol
  induction d with
  | zero =>
    intro i W hi hW hw
    have hWn : W.length = n := by omega
    have hT : toldC W = 0 := by
      unfold toldC
      rw [if_neg (by omega), if_pos]
      rw [List.all_eq_true]
      intro x hx
      exact decide_eq_true (hw x hx)
    obtain ⟨b, e1, e2, e3⟩ := can_told W O (by omega) hT (by rw [hWn]; exact ho)
    refine Ev.step (f := fun k => (impl_CanUnwind.f k W O).bind fun bt304 => ((spec_CanUnwind.f k W O).bind fun bt306 => (if bt304.2 = bt306.2 then (if bt304.2 = 0 then (laws_FnUnwound.j5 k (n : Int) O W bt306.1 (bt304.1 != bt306.1)) else (laws_FnUnwound.j5 k (n : Int) O W bt306.1 true)) else (laws_FnUnwound.j5 k (n : Int) O W bt306.1 true)))) (fun k => by simp only [laws_FnUnwound.l2]; rw [if_neg (by omega)]) (Ev.bind e2 (Ev.bind e1 ?_))
    simp only [if_true, bne_self_eq_false]
    refine Ev.step (fun k => by simp only [laws_FnUnwound.j5, Bool.false_eq_true, if_false]; rfl) (fine_out K W hWn b e3 n 0 true (by omega) ?_)
    exact ⟨fun _ i' j' a => by omega, fun _ => rfl⟩
  | succ d ih =>
    intro i W hi hW hw
    have wi : wrap64 ((i : Int) + 1) = ((i + 1 : Nat) : Int) := by rw [wr (by omega) (by omega)]; omega
    obtain ⟨t, e, t0, t1, _⟩ := a2At_f c ((i + 1 : Nat) : Int) 3 hc (by omega) (by omega)
    refine Ev.step (fun k => ?_) (ih (i + 1) (W ++ [t]) (by omega) (by simp; omega) ?_)
    · simp only [laws_FnUnwound.l2, wi, e, Option.bind_some]
      rw [if_pos (by omega), if_pos (by omega)]
    · intro x hx
      rcases List.mem_append.1 hx with h | h
      · exact hw x h
      · rw [List.mem_singleton.1 h]; omega
end
theorem FnUnwound : laws_FnUnwound.Pure := by
  intro c s ⟨hcl, hc⟩ ⟨hsl, hs⟩
  refine Ev.rounds ?_
  unfold laws_FnUnwound.f
  simp only [a2Long_f, Option.bind_some]
  by_cases hL : (c.length : Int) > 3000 ∨ (s.length : Int) > 3000
  · simp only [decide_eq_true hL, if_true]; exact Ev.now _
  · simp only [decide_eq_false hL, Bool.false_eq_true, if_false]
    obtain ⟨t, et, t0, t1, _⟩ := a2At_f c 0 9 hc (by omega) (by omega)
    obtain ⟨n, rfl⟩ := Int.eq_ofNat_of_zero_le t0
    simp only [et, Option.bind_some]
    have hb : bytesL s := ⟨by omega, fun x hx => u8 (hs x hx)⟩
    obtain ⟨O, o1, ho⟩ := a2Order_ev s hb n (by omega)
    obtain ⟨out, L, K, ep⟩ := known_of (by omega) ho
    have hol := K.ol
    have hlen := K.pl.len
    have hcnt := K.pl.cnt
    have hn8 := K.n8
    obtain ⟨f1, f2⟩ := few_told O (by omega) (by rw [hol]; exact ho)
    rw [ep] at f1 f2
    obtain ⟨b, c1, c2, c3⟩ := can_told out O (by omega) (K_told K) (by rw [hlen]; exact ho)
    have hbt : b = true := c3.2 (K_can K)
    subst hbt
    obtain ⟨u1, u2⟩ := off_told out (by omega) (K_told K)
    have hoff := K_off K
    have hoffl := (of_decide_eq_true hoff).1
    obtain ⟨b', d1, d2, d3⟩ := can_told out (offs out 8 0) (by omega) (K_told K) hoff
    have hbt' : b' = true := d3.2 (K_offcan K)
    subst hbt'
    refine Ev.bind o1 (Ev.bind f2 (Ev.bind f1 (Ev.bind c2 (Ev.bind u2 (Ev.bind u1 ?_)))))
    simp only [if_true]
    refine Ev.bind (same_self out (by omega)) ?_
    have e1 : (out.length : Int) = (n : Int) := by omega
    simp only [if_true, if_pos e1]
    refine Ev.bind (same_self (offs out 8 0) (by omega)) ?_
    have e2 : ((offs out 8 0).length : Int) = (n : Int) := by omega
    have e3 : (((L.length : Int) == 0) != ((n : Int) == 0)) = false := by
      have : ((L.length : Int) == 0) = ((n : Int) == 0) := by
        rw [Bool.eq_iff_iff, beq_iff_eq, beq_iff_eq]
        constructor
        · intro h
          by_cases hn0 : n = 0
          · omega
          · obtain ⟨p, _, h2, _⟩ := K.pl.low 0 (by omega)
            omega
        · intro h; omega
      rw [this]; simp
    simp only [if_true, if_pos e2, e3]
    refine Ev.step (fun k => by simp only [laws_FnUnwound.j0, Bool.false_eq_true, if_false]; rfl) (Ev.bind d2 ?_)
    simp only [if_true, Bool.not_true]
    have c0 : (0 : Int) ≤ (n : Int) := by omega
    have c9 : n ≤ 35184372088832 := by omega
    refine Ev.step (fun k => by simp only [laws_FnUnwound.j1, Bool.false_eq_true, if_false, Int.toNat_natCast]; rw [if_pos c0, if_pos c9]) ?_
    exact dp_out K c (own_loop K c hc ho n 0 [] (by omega) rfl (by simp)) n 0 (List.replicate n 0) 0 (by omega) (by simp) (fun k hk => by omega) (fun k hk => by omega) (by omega)
end Go.Proofs.Ytjhjabibkkhmjaa.Pure
