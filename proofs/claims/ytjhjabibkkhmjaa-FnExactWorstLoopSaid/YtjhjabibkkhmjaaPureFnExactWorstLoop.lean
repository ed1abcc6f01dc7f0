/- The law FnExactWorstLoop over numbers and lists: both tell one worst loop, for all fabrics; no conditions. -/
import Derived.Test.YtjhjabibkkhmjaaXFnExactWorstLoopx6
namespace Go.Proofs.Ytjhjabibkkhmjaa.Pure
open Go.RowKit Go.Proofs.Ytjhjabibkkhmjaa.XFnExactWorstLoop Go.Proofs.YtjhjabibkkhmjaaW.PrintWords Go.Proofs.YtjhjabibkkhmjaaW.PrintLast
set_option linter.unusedVariables false
set_option linter.unusedSimpArgs false
theorem wr {n : Int} (h0 : -9223372036854775808 ≤ n) (h1 : n ≤ 9223372036854775807) : wrap64 n = n := by
  unfold wrap64; omega
theorem wf64 {a : Int} (h : (Lit.int .i64 a).wf = true) : -9223372036854775808 ≤ a ∧ a ≤ 9223372036854775807 := by
  simp only [Lit.wf, IntKind.min, IntKind.max, IntKind.signed, IntKind.bits, Bool.and_eq_true, decide_eq_true_eq, if_true] at h
  omega
theorem ev_id {α : Type} {g : Nat → Option α} {r s : α} (h : Ev g r) (e : r = s) : Ev g s := e ▸ h
theorem ev_const {α : Type} {o : Option α} {r : α} (h : o = some r) : Ev (fun _ => o) r := ⟨0, fun _ _ => h⟩
theorem ev_fun {α : Type} {g : Nat → Option α} {r s : α} (h : Ev g r) (k : Ev g s) : r = s := by
  obtain ⟨a, h⟩ := h
  obtain ⟨b, k⟩ := k
  have x := h (max a b) (by omega)
  have y := k (max a b) (by omega)
  rw [x] at y; exact Option.some.inj y
/-- Both come to one answer. -/
def Same {α : Type} (g f : Nat → Option α) : Prop := ∃ r, Ev g r ∧ Ev f r
theorem Same.step {α : Type} {g f g' f' : Nat → Option α} (hg : ∀ k, g (k + 1) = g' k) (hf : ∀ k, f (k + 1) = f' k) (h : Same g' f') : Same g f := by
  obtain ⟨r, a, b⟩ := h
  exact ⟨r, Ev.step hg a, Ev.step hf b⟩
theorem Same.left {α : Type} {g f g' : Nat → Option α} (hg : ∀ k, g (k + 1) = g' k) (h : Same g' f) : Same g f := by
  obtain ⟨r, a, b⟩ := h
  exact ⟨r, Ev.step hg a, b⟩
theorem Same.right {α : Type} {g f f' : Nat → Option α} (hf : ∀ k, f (k + 1) = f' k) (h : Same g f') : Same g f := by
  obtain ⟨r, a, b⟩ := h
  exact ⟨r, a, Ev.step hf b⟩
theorem Same.now {α : Type} (r : α) : Same (fun _ => some r) (fun _ => some r) := ⟨r, Ev.now r, Ev.now r⟩
theorem if_dec {α : Type} {p : Prop} [Decidable p] (a b : α) : (if decide p = true then a else b) = if p then a else b := by
  by_cases h : p <;> simp [h]
theorem w00 : wrap64 0 = 0 := wr (by omega) (by omega)
theorem l00In_f (a b c : Int) : spec_l00In.f a b c = some (decide (b ≤ a ∧ a ≤ c)) := by
  unfold spec_l00In.f
  by_cases h : b ≤ a <;> simp [h]
theorem within_f (a b c : Int) : impl_within.f a b c = some (decide (b ≤ a ∧ a ≤ c)) := by
  unfold impl_within.f
  by_cases h : b ≤ a <;> simp [h]
theorem rd_lt {l : List Int} {i : Nat} (h : i < l.length) : rd l (i : Int) = l[i] := by
  unfold rd; simp [List.getD, h]
theorem rdS {l : List ByteArray} {i : Nat} (h : i < l.length) : rdOf ByteArray.empty l (i : Int) = l[i] := by
  unfold rdOf; simp [List.getD, h]
theorem eqStringS_loop (a : List ByteArray) (hn : (a.length : Int) ≤ 4611686018427387904) (d : Nat) : ∀ (i : Nat), i + d = a.length →
    Ev (fun k => laws_eqStringS.l0 k a a (i : Int)) true := by
  induction d with
  | zero =>
    intro i hi
    refine Ev.step (f := fun _ => some true) (fun k => ?_) (Ev.now _)
    simp only [laws_eqStringS.l0]; rw [if_neg (by omega)]
  | succ d ih =>
    intro i hi
    refine Ev.step (fun k => ?_) (ih (i + 1) (by omega))
    simp only [laws_eqStringS.l0, if_true]
    rw [if_pos (by omega), if_pos (by omega), if_pos (by omega), wr (n := (i : Int) + 1) (by omega) (by omega)]; rfl
theorem eqStringS_self (a : List ByteArray) (hn : (a.length : Int) ≤ 4611686018427387904) : Ev (fun k => laws_eqStringS.f k a a) true := by
  unfold laws_eqStringS.f
  simp only [if_true]
  exact eqStringS_loop a hn a.length 0 (by omega)
theorem szString_loop (l : List ByteArray) (hl : (l.length : Int) ≤ 140737488351232) (hs : ∀ x ∈ l, x.size ≤ 140737488351232) (d : Nat) : ∀ (i : Nat) (a : Int), i + d = l.length → 0 ≤ a → a ≤ 1048576 →
    ∃ r, Ev (fun k => laws_szStringS.l0 k l a (i : Int)) r ∧ (r = -1 ∨ (0 ≤ r ∧ r ≤ a ∧ ∀ x ∈ l.drop i, (x.size : Int) ≤ a)) := by
  induction d with
  | zero =>
    intro i a hi h0 h1
    refine ⟨a, Ev.step (f := fun _ => some a) (fun k => ?_) (Ev.now _), .inr ⟨h0, Int.le_refl _, ?_⟩⟩
    · simp only [laws_szStringS.l0]; rw [if_neg (by omega)]
    · rw [List.drop_eq_nil_of_le (by omega)]; simp
  | succ d ih =>
    intro i a hi h0 h1
    have hil : i < l.length := by omega
    have hsz := hs l[i] (List.getElem_mem _)
    have w : wrap64 (a - (l[i].size : Int)) = a - l[i].size := wr (by omega) (by omega)
    by_cases h : a - (l[i].size : Int) < 0
    · refine ⟨-1, Ev.step (f := fun _ => some (-1)) (fun k => ?_) (Ev.now _), .inl rfl⟩
      simp only [laws_szStringS.l0, rdS hil, w]
      rw [if_pos (by omega), if_pos (by omega), if_pos h]
    · obtain ⟨r, e, hr⟩ := ih (i + 1) (a - l[i].size) (by omega) (by omega) (by omega)
      refine ⟨r, Ev.step (fun k => ?_) e, ?_⟩
      · simp only [laws_szStringS.l0, rdS hil, w]
        rw [if_pos (by omega), if_pos (by omega), if_neg h, wr (n := (i : Int) + 1) (by omega) (by omega)]; rfl
      · rcases hr with hr | ⟨h2, h3, h4⟩
        · exact .inl hr
        · refine .inr ⟨h2, by omega, fun x hx => ?_⟩
          rw [List.drop_eq_getElem_cons hil] at hx
          rcases List.mem_cons.1 hx with rfl | hx
          · omega
          · have := h4 x hx; omega
theorem szString_ev (l : List ByteArray) (a : Int) (hl : (l.length : Int) ≤ 140737488351232) (hs : ∀ x ∈ l, x.size ≤ 140737488351232) (h0 : 0 ≤ a) (h1 : a ≤ 1048576) :
    ∃ r, Ev (fun k => laws_szStringS.f k l a) r ∧ (r = -1 ∨ (0 ≤ r ∧ r ≤ a ∧ (l.length : Int) ≤ a ∧ ∀ x ∈ l, (x.size : Int) ≤ a)) := by
  unfold laws_szStringS.f
  have w : wrap64 (a - (l.length : Int)) = a - l.length := wr (by omega) (by omega)
  rw [w]
  by_cases h : a - (l.length : Int) < 0
  · simp only [if_pos h]; exact ⟨-1, Ev.now _, .inl rfl⟩
  · simp only [if_neg h]
    obtain ⟨r, e, hr⟩ := szString_loop l hl hs l.length 0 (a - l.length) (by omega) (by omega) (by omega)
    refine ⟨r, e, ?_⟩
    rcases hr with hr | ⟨h2, h3, h4⟩
    · exact .inl hr
    · exact .inr ⟨h2, by omega, by omega, fun x hx => by have := h4 x (by simpa using hx); omega⟩
theorem toStringS_loop (l : List ByteArray) (hl : (l.length : Int) ≤ 140737488351232) (d : Nat) : ∀ (out rest : List ByteArray) (i : Nat), out.length = i → rest.length = d → i + d = l.length →
    Ev (fun k => laws_toStringS.l0 k l (out ++ rest) (i : Int)) (out ++ l.drop i) := by
  induction d with
  | zero =>
    intro out rest i ho hr hi
    refine Ev.step (f := fun _ => some (out ++ l.drop i)) (fun k => ?_) (Ev.now _)
    simp only [laws_toStringS.l0]
    rw [if_neg (by omega), List.drop_eq_nil_of_le (by omega), List.length_eq_zero_iff.1 hr]
  | succ d ih =>
    intro out rest i ho hr hi
    have hil : i < l.length := by omega
    obtain ⟨y, rest, rfl⟩ : ∃ y r, rest = y :: r := by cases rest with | nil => simp at hr | cons y r => exact ⟨y, r, rfl⟩
    refine Ev.step (fun k => ?_) (ev_id (ih (out ++ [l[i]]) rest (i + 1) (by simp; omega) (by simpa using hr) (by omega)) ?_)
    · simp only [laws_toStringS.l0]
      rw [if_pos (by omega), if_pos (by omega), if_pos (by simp; omega), rdS hil, wr (n := (i : Int) + 1) (by omega) (by omega)]
      have : (out ++ y :: rest).set (i : Int).toNat l[i] = out ++ [l[i]] ++ rest := by
        rw [Int.toNat_natCast, List.set_append_right _ _ (by omega), ho]; simp
      rw [this]; rfl
    · rw [List.drop_eq_getElem_cons hil]; simp only [List.append_assoc, List.cons_append, List.nil_append]
theorem toStringS_ev (l : List ByteArray) (hl : (l.length : Int) ≤ 8796093022208) : Ev (fun k => laws_toStringS.f k l) l := by
  unfold laws_toStringS.f
  have h0 : (0 : Int) ≤ (l.length : Int) := by omega
  have h1 : ((l.length : Int) : Int).toNat ≤ 17592186044416 := by omega
  simp only [if_pos h0, if_pos h1]
  have := toStringS_loop l (by omega) l.length [] (List.replicate l.length (⟨#[]⟩ : ByteArray)) 0 rfl (by simp) (by omega)
  simpa using this
theorem bt_lt {s : ByteArray} {i : Nat} (h : i < s.size) : bt s (i : Int) = (bytesOf s)[i]'(by unfold bytesOf; simpa using h) := by
  unfold bt bytesOf; simp [h]; rfl
theorem bytesOf_len (s : ByteArray) : (bytesOf s).length = s.size := by unfold bytesOf; simp
def stT (c : Int) : Int := if c = 107 then 1 else if c = 100 then 2 else if c = 105 then 1 else if c = 111 then 0 else if c = 98 then 1 else -1
def stM (c : Int) : Int := if c = 105 then 2 else if c = 98 then 0 else 1
def stY (c : Int) : Int := if c = 107 then 3 else if c = 100 then 4 else if c = 105 then 6 else if c = 111 then 4 else if c = 98 then 5 else 0
theorem stT_le (c : Int) : stT c ≤ 2 := by unfold stT; repeat' split <;> omega
theorem stM_le (c : Int) : 0 ≤ stM c ∧ stM c ≤ 2 := by unfold stM; repeat' split <;> omega
theorem stY_le (c : Int) : 0 ≤ stY c ∧ stY c ≤ 6 := by unfold stY; repeat' split <;> omega
theorem takes_ev (c : Int) : Ev (fun k => spec_l05Takes.f k c) (stT c) := by
  unfold spec_l05Takes.f stT
  by_cases h1 : c = 107
  · subst h1; simp only [if_true]; exact Ev.step (f := fun _ => some 1) (fun k => by simp [spec_l05Takes.j0]) (Ev.now _)
  · by_cases h3 : c = 105
    · subst h3; simp only [if_neg h1, if_true]; exact Ev.step (f := fun _ => some 1) (fun k => by simp [spec_l05Takes.j0]) (Ev.now _)
    · simp only [if_neg h1, if_neg h3]
      by_cases h5 : c = 98
      · subst h5; exact Ev.step (f := fun _ => some 1) (fun k => by simp [spec_l05Takes.j0]) (Ev.now _)
      · have hb : (c == 98) = false := by simpa using h5
        rw [hb]
        by_cases h2 : c = 100
        · subst h2; exact Ev.step (f := fun _ => some 2) (fun k => by simp [spec_l05Takes.j0]) (Ev.now _)
        · by_cases h4 : c = 111
          · subst h4; exact Ev.step (f := fun _ => some 0) (fun k => by simp [spec_l05Takes.j0]) (Ev.now _)
          · simp only [if_neg h2, if_neg h4, if_neg h5]
            exact Ev.step (f := fun _ => some (-1)) (fun k => by simp [spec_l05Takes.j0, h2, h4]) (Ev.now _)
theorem makes_f (c : Int) : spec_l05Makes.f c = some (stM c) := by
  unfold spec_l05Makes.f stM
  by_cases h1 : c = 105
  · rw [if_pos h1, if_pos h1]
  · rw [if_neg h1, if_neg h1]
    by_cases h2 : c = 98
    · rw [if_pos h2, if_pos h2]
    · rw [if_neg h2, if_neg h2]
theorem stitch_f (c : Int) : impl_stitchOf.f c = some (if 0 ≤ stT c then (stT c, stM c, stY c, true) else (0, 0, 0, false)) := by
  unfold impl_stitchOf.f stT stM stY
  by_cases h1 : c = 107
  · subst h1; simp
  · by_cases h2 : c = 100
    · subst h2; simp
    · by_cases h3 : c = 105
      · subst h3; simp
      · by_cases h4 : c = 111
        · subst h4; simp
        · by_cases h5 : c = 98
          · subst h5; simp
          · simp [h1, h2, h3, h4, h5]
/-- What the stitches of a row take, make and need together. -/
def rowS : List Int → Option (Int × Int × Int)
  | [] => some (0, 0, 0)
  | c :: l => if 0 ≤ stT c then (rowS l).map fun r => (stT c + r.1, stM c + r.2.1, stY c + r.2.2) else none
theorem rowS_bound : ∀ (l : List Int) (r : Int × Int × Int), rowS l = some r → (0 ≤ r.1 ∧ r.1 ≤ 2 * l.length) ∧ (0 ≤ r.2.1 ∧ r.2.1 ≤ 2 * l.length) ∧ (0 ≤ r.2.2 ∧ r.2.2 ≤ 6 * l.length)
  | [], r, h => by simp only [rowS, Option.some.injEq] at h; subst h; simp
  | c :: l, r, h => by
    simp only [rowS] at h
    split at h
    · obtain ⟨q, hq, rfl⟩ := Option.map_eq_some_iff.1 h
      have := rowS_bound l q hq
      have a := stT_le c
      have b := stM_le c
      have d := stY_le c
      simp only [List.length_cons]
      omega
    · cases h
theorem spec_row_loop (s : ByteArray) (hs : s.size ≤ 140737488351232) (d : Nat) : ∀ (i : Nat) (a b : Int), i + d = s.size → (0 ≤ a ∧ a ≤ 2 * i) → (0 ≤ b ∧ b ≤ 2 * i) →
    Ev (fun k => spec_l05Row.l0 k s a b (i : Int)) (match rowS ((bytesOf s).drop i) with | none => (0, 0, false) | some r => (a + r.1, b + r.2.1, true)) := by
  induction d with
  | zero =>
    intro i a b hi ha hb
    refine Ev.step (f := fun _ => some (a, b, true)) (fun k => ?_) (ev_id (Ev.now _) ?_)
    · simp only [spec_l05Row.l0]; rw [if_neg (by omega)]
    · rw [List.drop_eq_nil_of_le (by rw [bytesOf_len]; omega)]; simp [rowS]
  | succ d ih =>
    intro i a b hi ha hb
    have hil : i < s.size := by omega
    have hil' : i < (bytesOf s).length := by rw [bytesOf_len]; exact hil
    have hlt : (i : Int) < (s.size : Int) := by omega
    have h0 : (0 : Int) ≤ (i : Int) := by omega
    rw [List.drop_eq_getElem_cons hil']
    refine Ev.step (fun k => by simp only [spec_l05Row.l0, bt_lt hil]; rw [if_pos hlt, if_pos h0]) (Ev.bind (takes_ev _) ?_)
    generalize (bytesOf s)[i] = c
    have tl := stT_le c
    have ml := stM_le c
    by_cases hc : 0 ≤ stT c
    · simp only [if_neg (show ¬ (stT c < 0) by omega), makes_f, Option.bind_some, rowS, if_pos hc]
      rw [wr (n := a + stT c) (by omega) (by omega), wr (n := b + stM c) (by omega) (by omega), wr (n := (i : Int) + 1) (by omega) (by omega)]
      refine ev_id (ih (i + 1) (a + stT c) (b + stM c) (by omega) (by omega) (by omega)) ?_
      cases rowS ((bytesOf s).drop (i + 1)) with
      | none => rfl
      | some r => simp only [Option.map_some, Int.add_assoc]
    · simp only [if_pos (show stT c < 0 by omega), rowS, if_neg hc]; exact Ev.now _
theorem spec_row_ev (s : ByteArray) (hs : s.size ≤ 140737488351232) : Ev (fun k => spec_l05Row.f k s) (match rowS (bytesOf s) with | none => (0, 0, false) | some r => (r.1, r.2.1, true)) := by
  unfold spec_l05Row.f
  have := spec_row_loop s hs s.size 0 0 0 (by omega) (by omega) (by omega)
  simpa using this
theorem impl_row_loop (s : ByteArray) (hs : s.size ≤ 140737488351232) (d : Nat) : ∀ (i : Nat) (a b y : Int), i + d = s.size → (0 ≤ a ∧ a ≤ 2 * i) → (0 ≤ b ∧ b ≤ 2 * i) → (0 ≤ y ∧ y ≤ 6 * i) →
    Ev (fun k => impl_rowOf.l0 k s (s.size : Int) (i : Int) a b y) (match rowS ((bytesOf s).drop i) with | none => (0, 0, 0, false) | some r => (a + r.1, b + r.2.1, y + r.2.2, true)) := by
  induction d with
  | zero =>
    intro i a b y hi ha hb hy
    refine Ev.step (f := fun _ => some (a, b, y, true)) (fun k => ?_) (ev_id (Ev.now _) ?_)
    · simp only [impl_rowOf.l0]; rw [if_neg (by omega)]
    · rw [List.drop_eq_nil_of_le (by rw [bytesOf_len]; omega)]; simp [rowS]
  | succ d ih =>
    intro i a b y hi ha hb hy
    have hil : i < s.size := by omega
    have hil' : i < (bytesOf s).length := by rw [bytesOf_len]; exact hil
    have hlt : (i : Int) < (s.size : Int) := by omega
    have h0 : (0 : Int) ≤ (i : Int) := by omega
    rw [List.drop_eq_getElem_cons hil']
    refine Ev.step (fun k => by simp only [impl_rowOf.l0, bt_lt hil, stitch_f, Option.bind_some]; rw [if_pos hlt, if_pos h0, if_pos hlt]) ?_
    generalize (bytesOf s)[i] = c
    have tl := stT_le c
    have ml := stM_le c
    have yl := stY_le c
    by_cases hc : 0 ≤ stT c
    · simp only [if_pos hc, if_true, rowS]
      rw [wr (n := a + stT c) (by omega) (by omega), wr (n := b + stM c) (by omega) (by omega), wr (n := y + stY c) (by omega) (by omega), wr (n := (i : Int) + 1) (by omega) (by omega)]
      refine ev_id (ih (i + 1) (a + stT c) (b + stM c) (y + stY c) (by omega) (by omega) (by omega) (by omega)) ?_
      cases rowS ((bytesOf s).drop (i + 1)) with
      | none => rfl
      | some r => simp only [Option.map_some, Int.add_assoc]
    · simp only [if_neg hc, rowS, Bool.false_eq_true, if_false]; exact Ev.now _
theorem impl_row_ev (s : ByteArray) (hs : s.size ≤ 140737488351232) : Ev (fun k => impl_rowOf.f k s) (match rowS (bytesOf s) with | none => (0, 0, 0, false) | some r => (r.1, r.2.1, r.2.2, true)) := by
  unfold impl_rowOf.f
  have := impl_row_loop s hs s.size 0 0 0 0 (by omega) (by omega) (by omega) (by omega)
  simpa using this
/-- The index, counted from i on, of the first row with which a fabric is not valid, or -1. -/
def bad : Int → List ByteArray → Int → Int
  | _, [], _ => -1
  | w, s :: l, i => match rowS (bytesOf s) with
    | none => i
    | some r => if w = 0 ∨ r.1 ≠ w ∨ r.2.1 > 60 ∨ i ≥ 30 then i else bad r.2.1 l (i + 1)
theorem bad_ge : ∀ (l : List ByteArray) (w i : Int), 0 ≤ i → bad w l i = -1 ∨ 0 ≤ bad w l i
  | [], w, i, h => .inl rfl
  | s :: l, w, i, h => by
    simp only [bad]
    split
    · exact .inr h
    · split
      · exact .inr h
      · exact bad_ge l _ (i + 1) (by omega)
theorem spec_bad_loop (l : List ByteArray) (hl : (l.length : Int) ≤ 140737488351232) (hs : ∀ x ∈ l, x.size ≤ 140737488351232) (d : Nat) : ∀ (i : Nat) (w : Int), i + d = l.length →
    Ev (fun k => spec_l05Bad.l0 k l w (i : Int)) (bad w (l.drop i) i) := by
  induction d with
  | zero =>
    intro i w hi
    refine Ev.step (f := fun _ => some (-1)) (fun k => ?_) (ev_id (Ev.now _) ?_)
    · simp only [spec_l05Bad.l0]; rw [if_neg (by omega)]
    · rw [List.drop_eq_nil_of_le (by omega)]; rfl
  | succ d ih =>
    intro i w hi
    have hil : i < l.length := by omega
    have hlt : (i : Int) < (l.length : Int) := by omega
    have h0 : (0 : Int) ≤ (i : Int) := by omega
    refine Ev.step (fun k => by simp only [spec_l05Bad.l0, rdS hil]; rw [if_pos hlt, if_pos h0]) (Ev.bind (spec_row_ev _ (hs _ (List.getElem_mem _))) ?_)
    rw [List.drop_eq_getElem_cons hil]
    simp only [bad]
    have hi1 := ih (i + 1)
    cases rowS (bytesOf l[i]) with
    | none => simp only [Bool.false_eq_true, if_false]; exact Ev.now _
    | some r =>
      simp only [if_true]
      by_cases c1 : w = 0
      · simp only [c1, if_true, true_or]; exact Ev.now _
      · by_cases c2 : r.1 = w
        · by_cases c3 : r.2.1 > 60
          · simp only [if_neg c1, if_pos c2, if_pos c3, c3, true_or, or_true, if_true]; exact Ev.now _
          · by_cases c4 : (i : Int) ≥ 30
            · simp only [if_neg c1, if_pos c2, if_neg c3, if_pos c4, c4, or_true, if_true]; exact Ev.now _
            · have hn : ¬ (w = 0 ∨ r.1 ≠ w ∨ r.2.1 > 60 ∨ (i : Int) ≥ 30) := by omega
              simp only [if_neg c1, if_pos c2, if_neg c3, if_neg c4, if_neg hn]
              rw [wr (n := (i : Int) + 1) (by omega) (by omega)]
              exact hi1 r.2.1 (by omega)
        · have hp : (w = 0 ∨ r.1 ≠ w ∨ r.2.1 > 60 ∨ (i : Int) ≥ 30) := .inr (.inl c2)
          simp only [if_neg c1, if_neg c2, if_pos hp]; exact Ev.now _
theorem spec_bad_ev (l : List ByteArray) (w : Int) (hl : (l.length : Int) ≤ 140737488351232) (hs : ∀ x ∈ l, x.size ≤ 140737488351232) : Ev (fun k => spec_l05Bad.f k w l) (bad w l 0) := by
  unfold spec_l05Bad.f
  have := spec_bad_loop l hl hs l.length 0 w (by omega)
  simpa using this
theorem impl_bad_loop (l : List ByteArray) (hl : (l.length : Int) ≤ 140737488351232) (hs : ∀ x ∈ l, x.size ≤ 140737488351232) (d : Nat) : ∀ (i : Nat) (w : Int), i + d = l.length →
    Ev (fun k => impl_badRow.l0 k w l (l.length : Int) (i : Int)) (bad w (l.drop i) i) := by
  induction d with
  | zero =>
    intro i w hi
    refine Ev.step (f := fun _ => some (-1)) (fun k => ?_) (ev_id (Ev.now _) ?_)
    · simp only [impl_badRow.l0]; rw [if_neg (by omega)]
    · rw [List.drop_eq_nil_of_le (by omega)]; rfl
  | succ d ih =>
    intro i w hi
    have hil : i < l.length := by omega
    have hlt : (i : Int) < (l.length : Int) := by omega
    have h0 : (0 : Int) ≤ (i : Int) := by omega
    refine Ev.step (fun k => by simp only [impl_badRow.l0, rdS hil]; rw [if_pos hlt, if_pos h0, if_pos hlt]) (Ev.bind (impl_row_ev _ (hs _ (List.getElem_mem _))) ?_)
    rw [List.drop_eq_getElem_cons hil]
    simp only [bad]
    have hi1 := ih (i + 1)
    cases rowS (bytesOf l[i]) with
    | none => simp only [Bool.false_eq_true, if_false]; exact Ev.now _
    | some r =>
      simp only [if_true]
      by_cases c4 : (i : Int) ≥ 30
      · have hp : (w = 0 ∨ r.1 ≠ w ∨ r.2.1 > 60 ∨ (i : Int) ≥ 30) := .inr (.inr (.inr c4))
        simp only [if_pos c4, if_pos hp]; exact Ev.now _
      · by_cases c1 : w = 0
        · simp only [if_neg c4, c1, if_true, true_or]; exact Ev.now _
        · by_cases c2 : r.1 = w
          · by_cases c3 : r.2.1 > 60
            · simp only [if_neg c4, if_neg c1, if_pos c2, if_pos c3, c3, true_or, or_true, if_true]; exact Ev.now _
            · have hn : ¬ (w = 0 ∨ r.1 ≠ w ∨ r.2.1 > 60 ∨ (i : Int) ≥ 30) := by omega
              simp only [if_neg c1, if_pos c2, if_neg c3, if_neg c4, if_neg hn]
              rw [wr (n := (i : Int) + 1) (by omega) (by omega)]
              exact hi1 r.2.1 (by omega)
          · have hp : (w = 0 ∨ r.1 ≠ w ∨ r.2.1 > 60 ∨ (i : Int) ≥ 30) := .inr (.inl c2)
            simp only [if_neg c4, if_neg c1, if_neg c2, if_pos hp]; exact Ev.now _
theorem impl_bad_ev (l : List ByteArray) (w : Int) (hl : (l.length : Int) ≤ 140737488351232) (hs : ∀ x ∈ l, x.size ≤ 140737488351232) : Ev (fun k => impl_badRow.f k w l) (bad w l 0) := by
  unfold impl_badRow.f
  have := impl_bad_loop l hl hs l.length 0 w (by omega)
  simpa using this
theorem szFabric_ev (a : Int) (l : List ByteArray) (n : Int) (hl : (l.length : Int) ≤ 140737488351232) (hs : ∀ x ∈ l, x.size ≤ 140737488351232) (h0 : 0 ≤ n) (h1 : n ≤ 1048576) :
    ∃ r, Ev (fun k => laws_szFabric.f k a l n) r ∧ (r = -1 ∨ (0 ≤ r ∧ r ≤ n ∧ (l.length : Int) ≤ n ∧ ∀ x ∈ l, (x.size : Int) ≤ n)) := by
  obtain ⟨r, e, hr⟩ := szString_ev l n hl hs h0 h1
  unfold laws_szFabric.f
  rcases hr with rfl | h
  · exact ⟨-1, Ev.bind e (by simp only [show ((-1 : Int) < 0) from by omega, if_true]; exact Ev.now _), .inl rfl⟩
  · refine ⟨r, Ev.bind e ?_, .inr h⟩
    have : ¬ r < 0 := by omega
    simp only [if_neg this]; exact Ev.now _
theorem toFabric_ev (a : Int) (l : List ByteArray) (hl : (l.length : Int) ≤ 8796093022208) : Ev (fun k => laws_toFabric.f k a l) (a, l) := by
  unfold laws_toFabric.f
  exact Ev.bind (toStringS_ev l hl) (Ev.now _)
theorem eqFabric_self (a : Int) (l : List ByteArray) (hl : (l.length : Int) ≤ 4611686018427387904) : Ev (fun k => laws_eqFabric.f k a l a l) true := by
  unfold laws_eqFabric.f
  simp only [if_true]
  exact Ev.bind (eqStringS_self l hl) (by simp only [if_true]; exact Ev.now _)
/-- Is a fabric valid? -/
def okF (a : Int) (l : List ByteArray) : Bool := decide ((1 ≤ wrap64 a ∧ wrap64 a ≤ 60) ∧ bad (wrap64 a) l 0 < 0)
theorem spec_okF (a : Int) (l : List ByteArray) (hl : (l.length : Int) ≤ 140737488351232) (hs : ∀ x ∈ l, x.size ≤ 140737488351232) : Ev (fun k => spec_l05Ok.f k a l) (okF a l) := by
  unfold spec_l05Ok.f spec_l05Cast.f okF
  simp only [l00In_f, Option.bind_some, if_dec]
  by_cases h : 1 ≤ wrap64 a ∧ wrap64 a ≤ 60
  · simp only [if_pos h, h, true_and]
    exact Ev.bind (spec_bad_ev l _ hl hs) (by exact Ev.now _)
  · simp only [if_neg h, h, false_and, decide_false]; exact Ev.now _
theorem impl_okF (a : Int) (l : List ByteArray) (hl : (l.length : Int) ≤ 140737488351232) (hs : ∀ x ∈ l, x.size ≤ 140737488351232) : Ev (fun k => impl_ValidFabric.f k a l) (okF a l) := by
  unfold impl_ValidFabric.f impl_isLoops.f okF
  simp only [within_f, Option.bind_some, if_dec]
  by_cases h : 1 ≤ wrap64 a ∧ wrap64 a ≤ 60
  · simp only [if_pos h, h, true_and]
    exact Ev.bind (impl_bad_ev l _ hl hs) (by exact Ev.now _)
  · simp only [if_neg h, h, false_and, decide_false]; exact Ev.now _
theorem bad_neg : ∀ (l : List ByteArray) (w i : Int), 0 ≤ i → w ≤ 60 → bad w l i < 0 → (l = [] ∨ (l.length : Int) + i ≤ 30) ∧ ∀ s ∈ l, ∃ r, rowS (bytesOf s) = some r ∧ r.1 ≤ 60 ∧ r.2.1 ≤ 60
  | [], w, i, _, _, _ => ⟨.inl rfl, by simp⟩
  | s :: l, w, i, hi, hw, h => by
    simp only [bad] at h
    cases hr : rowS (bytesOf s) with
    | none => rw [hr] at h; simp only at h; omega
    | some r =>
      rw [hr] at h
      simp only at h
      by_cases hc : w = 0 ∨ r.1 ≠ w ∨ r.2.1 > 60 ∨ i ≥ 30
      · rw [if_pos hc] at h; omega
      · rw [if_neg hc] at h
        obtain ⟨h1, h2⟩ := bad_neg l r.2.1 (i + 1) (by omega) (by omega) h
        refine ⟨.inr ?_, fun x hx => ?_⟩
        · simp only [List.length_cons]
          rcases h1 with rfl | h1
          · simp; omega
          · omega
        · rcases List.mem_cons.1 hx with rfl | hx
          · exact ⟨r, hr, by omega, by omega⟩
          · exact h2 x hx
theorem okF_rows {a : Int} {l : List ByteArray} (h : okF a l = true) : (1 ≤ wrap64 a ∧ wrap64 a ≤ 60) ∧ l.length ≤ 30 ∧ ∀ s ∈ l, ∃ r, rowS (bytesOf s) = some r ∧ r.1 ≤ 60 ∧ r.2.1 ≤ 60 := by
  unfold okF at h
  obtain ⟨h1, h2⟩ := of_decide_eq_true h
  obtain ⟨h3, h4⟩ := bad_neg l _ 0 (by omega) (by omega) h2
  refine ⟨h1, ?_, h4⟩
  rcases h3 with rfl | h3
  · simp
  · omega
/-- What a row makes (0 if it is none). -/
def mkOf (s : ByteArray) : Int := match rowS (bytesOf s) with | none => 0 | some r => r.2.1
theorem spec_widths_loop (a : Int) (l : List ByteArray) (hl : (l.length : Int) ≤ 8796093022208) (hs : ∀ x ∈ l, x.size ≤ 140737488351232) (d : Nat) : ∀ (i : Nat) (out : List Int), i + d = l.length → (out.length : Int) ≤ i + 1 →
    Ev (fun k => spec_l05Widths.l0 k out (i : Int) a l) (out ++ (l.drop i).map mkOf) := by
  induction d with
  | zero =>
    intro i out hi ho
    refine Ev.step (f := fun _ => some out) (fun k => ?_) (ev_id (Ev.now _) ?_)
    · simp only [spec_l05Widths.l0]; rw [if_neg (by omega)]
    · rw [List.drop_eq_nil_of_le (by omega)]; simp
  | succ d ih =>
    intro i out hi ho
    have hil : i < l.length := by omega
    have hlt : (i : Int) < (l.length : Int) := by omega
    have h0 : (0 : Int) ≤ (i : Int) := by omega
    refine Ev.step (fun k => by simp only [spec_l05Widths.l0, rdS hil]; rw [if_pos hlt, if_pos h0]) (Ev.bind (spec_row_ev _ (hs _ (List.getElem_mem _))) ?_)
    have e : (match rowS (bytesOf l[i]) with | none => ((0 : Int), (0 : Int), false) | some r => (r.1, r.2.1, true)).2.1 = mkOf l[i] := by unfold mkOf; cases rowS (bytesOf l[i]) <;> rfl
    simp only [e]
    have ho2 : out.length < 17592186044416 := by omega
    simp only [if_pos ho2]
    rw [wr (n := (i : Int) + 1) (by omega) (by omega), List.drop_eq_getElem_cons hil]
    refine ev_id (ih (i + 1) (out ++ [mkOf l[i]]) (by omega) (by simp; omega)) ?_
    simp only [List.map_cons, List.append_assoc, List.cons_append, List.nil_append]
theorem spec_widths_ev (a : Int) (l : List ByteArray) (hl : (l.length : Int) ≤ 8796093022208) (hs : ∀ x ∈ l, x.size ≤ 140737488351232) : Ev (fun k => spec_l05Widths.f k a l) (wrap64 a :: l.map mkOf) := by
  unfold spec_l05Widths.f
  have := spec_widths_loop a l hl hs l.length 0 [wrap64 a] (by omega) (by simp)
  simpa using this
theorem impl_widths_loop (l : List ByteArray) (hl : (l.length : Int) ≤ 8796093022208) (hs : ∀ x ∈ l, x.size ≤ 140737488351232) (d : Nat) : ∀ (i : Nat) (out : List Int), i + d = l.length → (out.length : Int) ≤ i + 1 →
    Ev (fun k => impl_Fabric_widths.l0 k out l (l.length : Int) (i : Int)) (out ++ (l.drop i).map mkOf) := by
  induction d with
  | zero =>
    intro i out hi ho
    refine Ev.step (f := fun _ => some out) (fun k => ?_) (ev_id (Ev.now _) ?_)
    · simp only [impl_Fabric_widths.l0]; rw [if_neg (by omega)]
    · rw [List.drop_eq_nil_of_le (by omega)]; simp
  | succ d ih =>
    intro i out hi ho
    have hil : i < l.length := by omega
    have hlt : (i : Int) < (l.length : Int) := by omega
    have h0 : (0 : Int) ≤ (i : Int) := by omega
    refine Ev.step (fun k => by simp only [impl_Fabric_widths.l0, rdS hil]; rw [if_pos hlt, if_pos h0, if_pos hlt]) (Ev.bind (impl_row_ev _ (hs _ (List.getElem_mem _))) ?_)
    have e : (match rowS (bytesOf l[i]) with | none => ((0 : Int), (0 : Int), (0 : Int), false) | some r => (r.1, r.2.1, r.2.2, true)).2.1 = mkOf l[i] := by unfold mkOf; cases rowS (bytesOf l[i]) <;> rfl
    simp only [e]
    have ho2 : out.length < 17592186044416 := by omega
    simp only [if_pos ho2]
    rw [wr (n := (i : Int) + 1) (by omega) (by omega), List.drop_eq_getElem_cons hil]
    refine ev_id (ih (i + 1) (out ++ [mkOf l[i]]) (by omega) (by simp; omega)) ?_
    simp only [List.map_cons, List.append_assoc, List.cons_append, List.nil_append]
theorem impl_widths_ev (a : Int) (l : List ByteArray) (hl : (l.length : Int) ≤ 8796093022208) (hs : ∀ x ∈ l, x.size ≤ 140737488351232) : Ev (fun k => impl_Fabric_widths.f k a l) (wrap64 a :: l.map mkOf) := by
  unfold impl_Fabric_widths.f
  have := impl_widths_loop l hl hs l.length 0 [wrap64 a] (by omega) (by simp)
  simpa using this
/-- How many loops the last row has. -/
def lastW (a : Int) (l : List ByteArray) : Int := rd (wrap64 a :: l.map mkOf) (l.length : Int)
theorem impl_last_ev (a : Int) (l : List ByteArray) (hl : (l.length : Int) ≤ 8796093022208) (hs : ∀ x ∈ l, x.size ≤ 140737488351232) : Ev (fun k => impl_Fabric_last.f k a l) (lastW a l) := by
  unfold impl_Fabric_last.f
  refine Ev.bind (impl_widths_ev a l hl hs) ?_
  have h0 : (0 : Int) ≤ (l.length : Int) := by omega
  have h1 : (l.length : Int) < ((wrap64 a :: l.map mkOf).length : Int) := by simp; omega
  simp only [if_pos h0, if_pos h1]; exact Ev.now _
theorem wf16 {a : Int} (h : (Lit.int .i16 a).wf = true) : -32768 ≤ a ∧ a ≤ 32767 := by
  simp only [Lit.wf, IntKind.min, IntKind.max, IntKind.signed, IntKind.bits, Bool.and_eq_true, decide_eq_true_eq, if_true] at h
  omega
/-- How many loops there are in each row. -/
def WL (a : Int) (l : List ByteArray) : List Int := wrap64 a :: l.map mkOf
theorem WL_len (a : Int) (l : List ByteArray) : (WL a l).length = l.length + 1 := by unfold WL; simp
theorem rows_take : ∀ (l : List ByteArray) (w i : Int), 0 ≤ i → bad w l i < 0 → ∀ j (h : j < l.length), ∃ r, rowS (bytesOf l[j]) = some r ∧ r.1 = rd (w :: l.map mkOf) j
  | [], w, i, hi, hb => fun j h => by simp at h
  | s :: l, w, i, hi, hb => fun j h => by
    simp only [bad] at hb
    cases hr : rowS (bytesOf s) with
    | none => rw [hr] at hb; simp only at hb; omega
    | some r =>
      rw [hr] at hb
      simp only at hb
      by_cases hc : w = 0 ∨ r.1 ≠ w ∨ r.2.1 > 60 ∨ i ≥ 30
      · rw [if_pos hc] at hb; omega
      · rw [if_neg hc] at hb
        match j with
        | 0 => exact ⟨r, hr, by simp [rd]; omega⟩
        | j + 1 =>
          obtain ⟨q, h1, h2⟩ := rows_take l r.2.1 (i + 1) (by omega) hb j (by simpa using h)
          refine ⟨q, h1, ?_⟩
          have e : mkOf s = r.2.1 := by unfold mkOf; rw [hr]
          rw [h2, List.map_cons, e]
          have : (((j + 1 : Nat) : Int)).toNat = j + 1 := by omega
          simp [rd, this]
theorem rowS_nonneg : ∀ (l : List Int) (r : Int × Int × Int), rowS l = some r → ∀ c ∈ l, 0 ≤ stT c
  | [], r, h => by simp
  | c :: l, r, h => by
    simp only [rowS] at h
    split at h
    · rename_i hc
      obtain ⟨q, hq, rfl⟩ := Option.map_eq_some_iff.1 h
      intro x hx
      rcases List.mem_cons.1 hx with rfl | hx
      · exact hc
      · exact rowS_nonneg l q hq x hx
    · cases h
theorem rowS_sum : ∀ (l : List Int) (r : Int × Int × Int), rowS l = some r → r.1 = (l.map stT).sum
  | [], r, h => by simp only [rowS, Option.some.injEq] at h; subst h; simp
  | c :: l, r, h => by
    simp only [rowS] at h
    split at h
    · obtain ⟨q, hq, rfl⟩ := Option.map_eq_some_iff.1 h
      simp only [List.map_cons, List.sum_cons, rowS_sum l q hq]
    · cases h
/-- The stitches of a row, with the places of what they take and make. -/
def stL : List Int → Int → Int → List S204
  | [], _, _ => []
  | c :: l, t, m => ⟨⟨stT c, stM c, stY c⟩, t, m⟩ :: stL l (t + stT c) (m + stM c)
theorem impl_stitches_loop (s : ByteArray) (hs : s.size ≤ 1048576) (hv : ∀ c ∈ bytesOf s, 0 ≤ stT c) (d : Nat) : ∀ (i : Nat) (out : List S204) (a b : Int), i + d = s.size → out.length ≤ i → (0 ≤ a ∧ a ≤ 2 * i) → (0 ≤ b ∧ b ≤ 2 * i) →
    Ev (fun k => impl_stitches.l0 k s out a b (s.size : Int) (i : Int)) (out ++ stL ((bytesOf s).drop i) a b) := by
  induction d with
  | zero =>
    intro i out a b hi ho ha hb
    refine Ev.step (f := fun _ => some out) (fun k => ?_) (ev_id (Ev.now _) ?_)
    · simp only [impl_stitches.l0]; rw [if_neg (by omega)]
    · rw [List.drop_eq_nil_of_le (by rw [bytesOf_len]; omega)]; simp [stL]
  | succ d ih =>
    intro i out a b hi ho ha hb
    have hil : i < s.size := by omega
    have hil' : i < (bytesOf s).length := by rw [bytesOf_len]; exact hil
    have hlt : (i : Int) < (s.size : Int) := by omega
    have h0 : (0 : Int) ≤ (i : Int) := by omega
    have hc := hv (bytesOf s)[i] (List.getElem_mem _)
    have tl := stT_le (bytesOf s)[i]
    have ml := stM_le (bytesOf s)[i]
    have := ih (i + 1) (out ++ [⟨⟨stT (bytesOf s)[i], stM (bytesOf s)[i], stY (bytesOf s)[i]⟩, a, b⟩]) (a + stT (bytesOf s)[i]) (b + stM (bytesOf s)[i]) (by omega) (by simp; omega) (by omega) (by omega)
    refine Ev.step (fun k => ?_) (ev_id this ?_)
    · simp only [impl_stitches.l0, bt_lt hil, stitch_f, Option.bind_some, if_pos hc]
      rw [if_pos hlt, if_pos h0, if_pos hlt, if_pos (by omega), wr (n := a + stT (bytesOf s)[i]) (by omega) (by omega), wr (n := b + stM (bytesOf s)[i]) (by omega) (by omega), wr (n := (i : Int) + 1) (by omega) (by omega)]; rfl
    · rw [List.drop_eq_getElem_cons hil', stL]; simp
theorem impl_stitches_ev (s : ByteArray) (hs : s.size ≤ 1048576) (hv : ∀ c ∈ bytesOf s, 0 ≤ stT c) : Ev (fun k => impl_stitches.f k s) (stL (bytesOf s) 0 0) := by
  unfold impl_stitches.f
  have := impl_stitches_loop s hs hv s.size 0 [] 0 0 (by omega) (by simp) (by omega) (by omega)
  simpa using this
theorem stL_len : ∀ (l : List Int) (t m : Int), (stL l t m).length = l.length
  | [], _, _ => rfl
  | c :: l, t, m => by simp [stL, stL_len l]
/-- So many places from one on. -/
def plc (t n : Int) : List Int := (List.range n.toNat).map fun (j : Nat) => t + (j : Int)
theorem plc_len (t n : Int) : (plc t n).length = n.toNat := by unfold plc; simp
theorem wrap16 {n : Int} (h0 : -32768 ≤ n) (h1 : n ≤ 32767) : IntKind.i16.wrap n = n := by
  simp only [IntKind.wrap, IntKind.bits, IntKind.signed]; simp; omega
theorem rowS_sumM : ∀ (l : List Int) (r : Int × Int × Int), rowS l = some r → r.2.1 = (l.map stM).sum
  | [], r, h => by simp only [rowS, Option.some.injEq] at h; subst h; simp
  | c :: l, r, h => by
    simp only [rowS] at h
    split at h
    · obtain ⟨q, hq, rfl⟩ := Option.map_eq_some_iff.1 h
      simp only [List.map_cons, List.sum_cons, rowS_sumM l q hq]
    · cases h
theorem places_loop (a T : Int) (ha : 0 ≤ a ∧ a ≤ 4000000) (hT : 0 ≤ T ∧ T ≤ 2) (d : Nat) : ∀ (j : Nat) (out : List Int), (j : Int) + d = T → out.length = j →
    Ev (fun k => impl_places.l0 k a out T (j : Int)) (out ++ ((List.range T.toNat).drop j).map fun (j : Nat) => a + (j : Int)) := by
  induction d with
  | zero =>
    intro j out hj ho
    refine Ev.step (f := fun _ => some out) (fun k => ?_) (ev_id (Ev.now _) ?_)
    · simp only [impl_places.l0]; rw [if_neg (by omega)]
    · rw [List.drop_eq_nil_of_le (by simp; omega)]; simp
  | succ d ih =>
    intro j out hj ho
    have e : (List.range T.toNat).drop j = j :: (List.range T.toNat).drop (j + 1) := by
      rw [List.drop_eq_getElem_cons (by simp; omega)]; simp
    refine Ev.step (fun k => ?_) (ev_id (ih (j + 1) (out ++ [a + (j : Int)]) (by omega) (by simp; omega)) ?_)
    · simp only [impl_places.l0]; rw [if_pos (by omega), if_pos (by omega), wr (n := a + (j : Int)) (by omega) (by omega), wr (n := (j : Int) + 1) (by omega) (by omega)]; rfl
    · rw [e]; simp
theorem places_ev (a T : Int) (ha : 0 ≤ a ∧ a ≤ 4000000) (hT : 0 ≤ T ∧ T ≤ 2) : Ev (fun k => impl_places.f k a T) (plc a T) := by
  unfold impl_places.f plc
  have := places_loop a T ha hT T.toNat 0 [] (by omega) rfl
  simpa using this
/-- So many places from one on. -/
def ivl : Nat → Nat → List Int
  | 0, _ => []
  | n + 1, k => (k : Int) :: ivl n (k + 1)
/-- The places of D that are true: n places from k on. -/
def sel (D : List Bool) : Nat → Nat → List Int
  | 0, _ => []
  | n + 1, k => (if D.getD k false = true then [(k : Int)] else []) ++ sel D n (k + 1)
theorem T_eq {c : Int} (h : 0 ≤ stT c) : ((spec_l05Ladder.T c : Nat) : Int) = stT c ∧ ((spec_l05Ladder.M c : Nat) : Int) = stM c ∧ spec_l05Ladder.okc c = true := by
  have : c = 107 ∨ c = 100 ∨ c = 105 ∨ c = 111 ∨ c = 98 := by
    unfold stT at h
    repeat' split at h
    all_goals omega
  refine ⟨?_, ?_, decide_eq_true this⟩ <;> rcases this with rfl | rfl | rfl | rfl | rfl <;> decide
theorem row_sel (r : Nat) (D : List Bool) : ∀ n k, spec_l05Ladder.row r D n k = (sel D n k).map (fun p => (⟨IntKind.i16.wrap (r : Int), p⟩ : S147))
  | 0, _ => rfl
  | n + 1, k => by
    simp only [spec_l05Ladder.row, sel, List.map_append, row_sel r D n]
    congr 1
    split <;> rfl
theorem sel_mem (D : List Bool) (p : Int) : ∀ n k, p ∈ sel D n k ↔ ∃ j : Nat, p = (j : Int) ∧ k ≤ j ∧ j < k + n ∧ D.getD j false = true
  | 0, k => by simp [sel]; intro j _ h1 h2; omega
  | n + 1, k => by
    simp only [sel, List.mem_append, sel_mem D p n]
    constructor
    · rintro (h | ⟨j, e, a, b, c⟩)
      · split at h
        · rename_i hd
          have := List.mem_singleton.1 h
          exact ⟨k, this, by omega, by omega, hd⟩
        · simp at h
      · exact ⟨j, e, by omega, by omega, c⟩
    · rintro ⟨j, e, a, b, c⟩
      by_cases hk : j = k
      · subst hk; left; rw [if_pos c, e]; simp
      · exact .inr ⟨j, e, by omega, by omega, c⟩
theorem sel_add (D : List Bool) (b : Nat) : ∀ a k, sel D (a + b) k = sel D a k ++ sel D b (k + a)
  | 0, k => by simp [sel]
  | a + 1, k => by
    rw [show a + 1 + b = (a + b) + 1 from by omega]
    simp only [sel, sel_add D b a (k + 1), List.append_assoc]
    rw [show k + 1 + a = k + (a + 1) from by omega]
theorem sel_congr (D E : List Bool) : ∀ n k, (∀ j, k ≤ j → j < k + n → D.getD j false = E.getD j false) → sel D n k = sel E n k
  | 0, _, _ => rfl
  | n + 1, k, h => by
    simp only [sel, h k (by omega) (by omega), sel_congr D E n (k + 1) (fun j a b => h j (by omega) (by omega))]
theorem sel_const (D : List Bool) (b : Bool) : ∀ n k, (∀ j, k ≤ j → j < k + n → D.getD j false = b) → sel D n k = if b = true then ivl n k else []
  | 0, _, _ => by simp [sel, ivl]
  | n + 1, k, h => by
    simp only [sel, h k (by omega) (by omega), sel_const D b n (k + 1) (fun j a b => h j (by omega) (by omega)), ivl]
    cases b <;> simp
theorem sel_len (D : List Bool) : ∀ n k, (sel D n k).length ≤ n
  | 0, _ => by simp [sel]
  | n + 1, k => by
    have := sel_len D n (k + 1)
    simp only [sel, List.length_append]
    split <;> simp <;> omega
theorem fill_len (b : Bool) : ∀ (n : Nat) (N : List Bool) (t : Nat), (spec_l05Ladder.fill b N t n).length = N.length
  | 0, _, _ => rfl
  | n + 1, N, t => by simp only [spec_l05Ladder.fill, fill_len b n]; simp
theorem getD_set (N : List Bool) (t i : Nat) (b : Bool) (h : t < N.length) : (N.set t b).getD i false = if i = t then b else N.getD i false := by
  rw [List.getD_eq_getElem?_getD, List.getElem?_set, List.getD_eq_getElem?_getD]
  by_cases e : t = i
  · subst e; simp [h]
  · rw [if_neg e, if_neg (fun z => e z.symm)]
theorem fill_getD (b : Bool) : ∀ (n : Nat) (N : List Bool) (t i : Nat), t + n ≤ N.length → (spec_l05Ladder.fill b N t n).getD i false = if t ≤ i ∧ i < t + n then b else N.getD i false
  | 0, N, t, i, _ => by simp only [spec_l05Ladder.fill]; rw [if_neg (by omega)]
  | n + 1, N, t, i, h => by
    simp only [spec_l05Ladder.fill]
    rw [fill_getD b n (N.set t b) (t + 1) i (by simp; omega), getD_set N t i b (by omega)]
    by_cases e : i = t
    · subst e; rw [if_neg (by omega), if_pos rfl, if_pos (by omega)]
    · rw [if_neg e]
      by_cases h1 : t + 1 ≤ i ∧ i < t + 1 + n
      · rw [if_pos h1, if_pos (by omega)]
      · rw [if_neg h1, if_neg (by omega)]
theorem next_len (D : List Bool) : ∀ (l : List Int) (t m : Nat) (N : List Bool), (spec_l05Ladder.next D l t m N).length = N.length
  | [], _, _, _ => rfl
  | c :: l, t, m, N => by simp only [spec_l05Ladder.next, next_len D l, fill_len]
theorem next_low (D : List Bool) : ∀ (l : List Int) (t m : Nat) (N : List Bool) (i : Nat), i < t → t + (l.map spec_l05Ladder.T).sum ≤ N.length → (spec_l05Ladder.next D l t m N).getD i false = N.getD i false
  | [], _, _, _, _, _, _ => rfl
  | c :: l, t, m, N, i, h, hn => by
    simp only [List.map_cons, List.sum_cons] at hn
    simp only [spec_l05Ladder.next]
    rw [next_low D l _ _ _ i (by omega) (by rw [fill_len]; omega), fill_getD _ _ _ _ _ (by omega), if_neg (by omega)]
/-- The places that drop next. -/
def nx (D : List Bool) : List Int → Nat → Nat → List Int
  | [], _, _ => []
  | c :: l, t, m => (if (decide (0 < spec_l05Ladder.M c) && spec_l05Ladder.all D m (spec_l05Ladder.M c)) = true then ivl (spec_l05Ladder.T c) t else []) ++ nx D l (t + spec_l05Ladder.T c) (m + spec_l05Ladder.M c)
theorem next_sel (D : List Bool) : ∀ (l : List Int) (t m : Nat) (N : List Bool), t + (l.map spec_l05Ladder.T).sum ≤ N.length → sel (spec_l05Ladder.next D l t m N) (l.map spec_l05Ladder.T).sum t = nx D l t m
  | [], _, _, _, _ => rfl
  | c :: l, t, m, N, h => by
    simp only [List.map_cons, List.sum_cons] at h ⊢
    rw [sel_add]
    simp only [spec_l05Ladder.next, nx]
    congr 1
    · refine sel_const _ _ _ _ (fun j a b => ?_)
      rw [next_low D l _ _ _ j (by omega) (by rw [fill_len]; omega), fill_getD _ _ _ _ _ (by omega), if_pos ⟨a, b⟩]
    · exact next_sel D l _ _ _ (by rw [fill_len]; omega)
theorem nx_len (D : List Bool) : ∀ (l : List Int) (t m : Nat), (nx D l t m).length ≤ (l.map spec_l05Ladder.T).sum
  | [], _, _ => by simp [nx]
  | c :: l, t, m => by
    have := nx_len D l (t + spec_l05Ladder.T c) (m + spec_l05Ladder.M c)
    have e : ∀ n k, (ivl n k).length = n := by
      intro n
      induction n with
      | zero => intro k; rfl
      | succ n ih => intro k; simp [ivl, ih]
    simp only [nx, List.length_append, List.map_cons, List.sum_cons]
    split
    · rw [e]; omega
    · simp; omega
theorem all_true (D : List Bool) : ∀ (n m : Nat), spec_l05Ladder.all D m n = true ↔ ∀ p ∈ ivl n m, ∃ j : Nat, p = (j : Int) ∧ D.getD j false = true := by
  intro n
  induction n with
  | zero => intro m; simp [spec_l05Ladder.all, ivl]
  | succ n ih =>
    intro m
    simp only [spec_l05Ladder.all, ivl, Bool.and_eq_true, ih (m + 1), List.mem_cons]
    constructor
    · rintro ⟨h1, h2⟩ p (rfl | hp)
      · exact ⟨m, rfl, h1⟩
      · exact h2 p hp
    · intro h
      refine ⟨?_, fun p hp => h p (.inr hp)⟩
      obtain ⟨j, e, hj⟩ := h _ (.inl rfl)
      have : m = j := by omega
      subst this; exact hj
theorem plc_ivl (n : Nat) : ∀ k : Nat, plc (k : Int) (n : Int) = ivl n k := by
  unfold plc
  rw [Int.toNat_natCast]
  induction n with
  | zero => intro k; rfl
  | succ n ih =>
    intro k
    rw [List.range_succ_eq_map]
    simp only [List.map_cons, List.map_map, ivl]
    rw [← ih (k + 1)]
    refine congr (congrArg List.cons (by simp)) ?_
    · apply List.map_congr_left
      intro j _
      simp only [Function.comp]
      omega
theorem ev_allG {α : Type} (q : Nat → α → Option Bool) (p : α → Bool) (l : List α) (hl : (l.length : Int) ≤ 1048576) (h : ∀ x ∈ l, Ev (fun k => q k x) (p x)) : Ev (fun k => allG l (q k)) (l.all p) := by
  have : ∀ l' : List α, (∀ x ∈ l', Ev (fun k => q k x) (p x)) → Ev (fun k => allO (q k) l') (l'.all p) := by
    intro l'
    induction l' with
    | nil => intro _; exact Ev.now _
    | cons x l' ih =>
      intro h
      have e : ∀ k, allO (q k) (x :: l') = (q k x).bind fun b => if b = true then allO (q k) l' else some false := fun k => rfl
      simp only [e]
      refine Ev.bind (h x (List.mem_cons_self)) ?_
      cases hx : p x with
      | true =>
        simp only [if_true, List.all_cons, hx, Bool.true_and]
        exact ih (fun y hy => h y (List.mem_cons_of_mem _ hy))
      | false =>
        simp only [Bool.false_eq_true, if_false, List.all_cons, hx, Bool.false_and]; exact Ev.now _
  have e : ∀ k, allG l (q k) = allO (q k) l := fun k => by unfold allG; rw [if_pos (by omega)]
  simp only [e]
  exact this l h
theorem contains_loop (l : List Int) (v : Int) (hl : (l.length : Int) ≤ 1048576) (d : Nat) : ∀ i : Nat, i + d = l.length → ∃ r : Int, Ev (fun k => slices_Index_int64_int64.l0 k l v (l.length : Int) (i : Int)) r ∧ decide (r ≥ 0) = decide (v ∈ l.drop i) := by
  induction d with
  | zero =>
    intro i hi
    refine ⟨-1, Ev.step (f := fun _ => some (-1)) (fun k => ?_) (Ev.now _), ?_⟩
    · simp only [slices_Index_int64_int64.l0]; rw [if_neg (by omega)]
    · rw [List.drop_eq_nil_of_le (by omega)]; simp
  | succ d ih =>
    intro i hi
    have hil : i < l.length := by omega
    rw [List.drop_eq_getElem_cons hil]
    by_cases e : v = l[i]
    · refine ⟨(i : Int), Ev.step (f := fun _ => some (i : Int)) (fun k => ?_) (Ev.now _), ?_⟩
      · simp only [slices_Index_int64_int64.l0, rd_lt hil]
        rw [if_pos (by omega), if_pos (by omega), if_pos (by omega), if_pos e]
      · rw [decide_eq_true (show (i : Int) ≥ 0 by omega), decide_eq_true (show v ∈ l[i] :: l.drop (i + 1) by rw [e]; exact List.mem_cons_self)]
    · obtain ⟨r, r1, r2⟩ := ih (i + 1) (by omega)
      refine ⟨r, Ev.step (fun k => ?_) r1, ?_⟩
      · simp only [slices_Index_int64_int64.l0, rd_lt hil]
        rw [if_pos (by omega), if_pos (by omega), if_pos (by omega), if_neg e, wr (n := (i : Int) + 1) (by omega) (by omega)]; rfl
      · rw [r2, decide_eq_decide, List.mem_cons]
        exact ⟨.inr, fun z => z.resolve_left e⟩
theorem contains_ev (l : List Int) (v : Int) (hl : (l.length : Int) ≤ 1048576) : Ev (fun k => slices_Contains_int64_int64.f k l v) (decide (v ∈ l)) := by
  unfold slices_Contains_int64_int64.f slices_Index_int64_int64.f
  obtain ⟨r, r1, r2⟩ := contains_loop l v hl l.length 0 (by omega)
  refine Ev.bind r1 ?_
  rw [r2, List.drop_zero]; exact Ev.now _
theorem ev_stay {α : Type} {g g' : Nat → Option α} {r : α} (h : Ev g' r) (e : ∀ k, g (k + 1) = g' k) : Ev g r := Ev.step e h
/-- What the rows' stitches look like from one place on. -/
theorem stL_cons_get {L : List S204} {i : Nat} {c : Int} {l : List Int} {t m : Int} (h : L.drop i = stL (c :: l) t m) : ∃ hi : i < L.length, L[i] = ⟨⟨stT c, stM c, stY c⟩, t, m⟩ ∧ L.drop (i + 1) = stL l (t + stT c) (m + stM c) := by
  have hi : i < L.length := by
    rcases Nat.lt_or_ge i L.length with h1 | h1
    · exact h1
    · rw [List.drop_eq_nil_of_le h1] at h; simp [stL] at h
  rw [List.drop_eq_getElem_cons hi] at h
  simp only [stL, List.cons.injEq] at h
  exact ⟨hi, h.1, h.2⟩
theorem rd_made {L : List S204} {i : Nat} (h : i < L.length) : rd_T204 L (i : Int) = L[i] := by
  unfold rd_T204; simp [List.getD, h]
theorem ivl_mem (p : Int) : ∀ n k, p ∈ ivl n k ↔ ∃ j : Nat, p = (j : Int) ∧ k ≤ j ∧ j < k + n
  | 0, k => by
    constructor
    · intro h; simp [ivl] at h
    · rintro ⟨j, e, a, b⟩; omega
  | n + 1, k => by
    simp only [ivl, List.mem_cons, ivl_mem p n]
    constructor
    · rintro (rfl | ⟨j, e, a, b⟩)
      · exact ⟨k, rfl, by omega, by omega⟩
      · exact ⟨j, e, by omega, by omega⟩
    · rintro ⟨j, e, a, b⟩
      by_cases hk : j = k
      · subst hk; exact .inl e
      · exact .inr ⟨j, e, by omega, by omega⟩
theorem own_all (D : List Bool) (w m n : Nat) (h : m + n ≤ w) : (ivl n m).all (fun p => decide (p ∈ sel D w 0)) = spec_l05Ladder.all D m n := by
  rw [Bool.eq_iff_iff, List.all_eq_true, all_true]
  constructor
  · intro h1 p hp
    obtain ⟨j, e, _, _, d⟩ := (sel_mem D p w 0).1 (of_decide_eq_true (h1 p hp))
    exact ⟨j, e, d⟩
  · intro h1 p hp
    obtain ⟨j, e, d⟩ := h1 p hp
    obtain ⟨j2, e2, a, b⟩ := (ivl_mem p n m).1 hp
    exact decide_eq_true ((sel_mem D p w 0).2 ⟨j, e, by omega, by omega, d⟩)
/-- One stitch of a row, as the program goes over it. -/
def lad_next (k : Nat) (a r : Int) (rows : List ByteArray) (out : List S147) (nxt dr : List Int) (L : List S204) (i : Int) (x : S204) : Option (List S147) := (impl_places.f k x.f2 x.f0.f1).bind fun t216 => (if (t216.length : Int) > 0 then ((allG t216 (fun x_ => impl_Fabric_ladder_1.f k x_ dr)).bind fun t219 => (if t219 = true then ((impl_places.f k x.f1 x.f0.f0).bind fun t220 => (if nxt.length + t220.length < 17592186044416 then (impl_Fabric_ladder.l2 k out r (nxt ++ t220) L (L.length : Int) i a rows dr) else (none))) else (impl_Fabric_ladder.l2 k out r nxt L (L.length : Int) i a rows dr))) else (impl_Fabric_ladder.l2 k out r nxt L (L.length : Int) i a rows dr))
theorem lad_step (k : Nat) (a r : Int) (rows : List ByteArray) (out : List S147) (nxt dr : List Int) (L : List S204) (i : Nat) (hi : i < L.length) (hL : (L.length : Int) ≤ 1048576) :
    impl_Fabric_ladder.l2 (k + 1) out r nxt L (L.length : Int) (i : Int) a rows dr = lad_next k a r rows out nxt dr L ((i + 1 : Nat) : Int) L[i] := by
  have h1 : (i : Int) < (L.length : Int) := by omega
  have h0 : (0 : Int) ≤ (i : Int) := by omega
  have w : wrap64 ((i : Int) + 1) = ((i + 1 : Nat) : Int) := by rw [wr (by omega) (by omega)]; omega
  rw [impl_Fabric_ladder.l2, if_pos h1, if_pos h0, if_pos h1, rd_made hi, w]
  rfl
theorem small (n : Nat) (h : n ≤ 60) : (n : Int) ≤ 1048576 := by omega
theorem small2 {a b c : Nat} (h : a ≤ c) (hb : b ≤ 60) (hc : c ≤ 60) : a + b < 17592186044416 := by omega
set_option maxHeartbeats 1000000 in
theorem ladder_in (a r : Int) (rows : List ByteArray) (out : List S147) (D : List Bool) (w : Nat) (hw : w ≤ 60) (L : List S204) (hL : (L.length : Int) ≤ 1048576) (R : List S147) (d : Nat) :
    ∀ (i t m : Nat) (l : List Int) (nxt : List Int), i + d = L.length → L.drop i = stL l (t : Int) (m : Int) → (∀ c ∈ l, 0 ≤ stT c) → t + (l.map spec_l05Ladder.T).sum ≤ 60 → m + (l.map spec_l05Ladder.M).sum ≤ w → nxt.length ≤ t →
    Ev (fun k => impl_Fabric_ladder.l0 k out (wrap64 (r - 1)) a rows (nxt ++ nx D l t m)) R →
    Ev (fun k => impl_Fabric_ladder.l2 k out r nxt L (L.length : Int) (i : Int) a rows (sel D w 0)) R := by
  induction d with
  | zero =>
    intro i t m l nxt hi hd hv ht hm hn h
    have : l = [] := by
      rw [List.drop_eq_nil_of_le (by omega)] at hd
      cases l with
      | nil => rfl
      | cons c l => simp [stL] at hd
    subst this
    simp only [nx, List.append_nil] at h
    refine Ev.step (fun k => ?_) h
    simp only [impl_Fabric_ladder.l2]; rw [if_neg (by omega)]
  | succ d ih =>
    intro i t m l nxt hi hd hv ht hm hn h
    cases l with
    | nil =>
      have : i < L.length := by omega
      rw [List.drop_eq_getElem_cons this] at hd; cases hd
    | cons c l =>
      obtain ⟨hil, hg, hd2⟩ := stL_cons_get hd
      have hc := hv c List.mem_cons_self
      obtain ⟨eT, eM, _⟩ := T_eq hc
      have tl := stT_le c
      have ml := stM_le c
      simp only [List.map_cons, List.sum_cons] at ht hm
      generalize hTc : spec_l05Ladder.T c = tc at *
      generalize hMc : spec_l05Ladder.M c = mc at *
      have wi : wrap64 ((i : Int) + 1) = ((i + 1 : Nat) : Int) := by rw [wr (by omega) (by omega)]; omega
      have p1 := places_ev ((m : Nat) : Int) (stM c) (by omega) (by omega)
      have p2 := places_ev ((t : Nat) : Int) (stT c) (by omega) (by omega)
      rw [← eM, plc_ivl] at p1
      rw [← eT, plc_ivl] at p2
      have len_ivl : ∀ n k, (ivl n k).length = n := by
        intro n
        induction n with
        | zero => intro k; rfl
        | succ n ih => intro k; simp [ivl, ih]
      have sl := sel_len D w 0
      have hd3 : L.drop (i + 1) = stL l ((t + tc : Nat) : Int) ((m + mc : Nat) : Int) := by
        rw [hd2]; congr 1 <;> omega
      simp only [nx, hTc, hMc] at h
      have hmc2 : mc ≤ 60 := by omega
      have htc2 : tc ≤ 60 := by omega
      have ht60 : t ≤ 60 := by omega
      have sl60 : (sel D w 0).length ≤ 60 := by omega
      have next : ∀ nxt' : List Int, nxt' = nxt ++ (if (decide (0 < mc) && spec_l05Ladder.all D m mc) = true then ivl tc t else []) → nxt'.length ≤ t + tc →
          Ev (fun k => impl_Fabric_ladder.l2 k out r nxt' L (L.length : Int) ((i + 1 : Nat) : Int) a rows (sel D w 0)) R := by
        intro nxt' e hlen
        refine ih (i + 1) (t + tc) (m + mc) l nxt' (by omega) hd3 (fun x hx => hv x (List.mem_cons_of_mem _ hx)) (by omega) (by omega) hlen ?_
        rw [e, List.append_assoc]; exact h
      refine Ev.step (fun k => lad_step k a r rows out nxt (sel D w 0) L i hil hL) ?_
      rw [hg]
      unfold lad_next
      simp only
      rw [← eM, ← eT]
      refine Ev.bind p1 ?_
      rw [len_ivl]
      by_cases hm0 : 0 < mc
      · rw [decide_eq_true hm0, Bool.true_and] at next
        have c1 : (mc : Int) > 0 := Int.natCast_pos.mpr hm0
        simp only [if_pos c1]
        have q := ev_allG (fun k x => impl_Fabric_ladder_1.f k x (sel D w 0)) (fun p => decide (p ∈ sel D w 0)) (ivl mc m) (by rw [len_ivl]; exact small mc hmc2) (fun x _ => by
          show Ev (fun k => impl_Fabric_ladder_1.f k x (sel D w 0)) _
          unfold impl_Fabric_ladder_1.f
          exact Ev.bind (contains_ev (sel D w 0) x (small _ sl60)) (Ev.now _))
        rw [own_all D w m mc (Nat.le_trans (Nat.add_le_add_left (Nat.le_add_right _ _) _) hm)] at q
        refine Ev.bind q ?_
        cases hall : spec_l05Ladder.all D m mc with
        | true =>
          simp only [if_true]
          refine Ev.bind p2 ?_
          rw [len_ivl]
          have c2 : nxt.length + tc < 17592186044416 := small2 hn htc2 ht60
          simp only [if_pos c2]
          exact next _ (by rw [hall]; simp) (by rw [List.length_append, len_ivl]; exact Nat.add_le_add_right hn _)
        | false =>
          simp only [Bool.false_eq_true, if_false]
          exact next _ (by rw [hall]; simp) (Nat.le_trans hn (Nat.le_add_right _ _))
      · have c1 : ¬ (mc : Int) > 0 := fun z => hm0 (Int.natCast_pos.mp z)
        simp only [if_neg c1]
        exact next _ (by rw [decide_eq_false hm0]; simp) (Nat.le_trans hn (Nat.le_add_right _ _))
/-- The loops of one row are told. -/
theorem ladder_put (a : Int) (rows : List ByteArray) (R : List S147) (r : Nat) (S : List Int) (hS : S.length ≤ 60) (hv : ∀ x ∈ S, 0 ≤ x ∧ x < 60) (d : Nat) : ∀ (i : Nat) (out : List S147), i + d = S.length → out.length + d ≤ 1000000 →
    Ev (fun k => impl_Fabric_ladder.l1 k (out ++ (S.drop i).map (fun p => (⟨IntKind.i16.wrap (r : Int), p⟩ : S147))) (r : Int) S (S.length : Int) (S.length : Int) a rows S) R →
    Ev (fun k => impl_Fabric_ladder.l1 k out (r : Int) S (S.length : Int) (i : Int) a rows S) R := by
  induction d with
  | zero =>
    intro i out hi ho h
    have : i = S.length := by omega
    subst this
    rw [List.drop_eq_nil_of_le (Nat.le_refl _)] at h
    simpa using h
  | succ d ih =>
    intro i out hi ho h
    have hil : i < S.length := by omega
    have hx := hv S[i] (List.getElem_mem hil)
    rw [List.drop_eq_getElem_cons hil] at h
    have w : wrap64 ((i : Int) + 1) = ((i + 1 : Nat) : Int) := by rw [wr (by omega) (by omega)]; omega
    refine Ev.step (fun k => ?_) (ih (i + 1) (out ++ [(⟨IntKind.i16.wrap (r : Int), S[i]⟩ : S147)]) (by omega) (by simp; omega) ?_)
    · simp only [impl_Fabric_ladder.l1, rd_lt hil, wrap16 (n := S[i]) (by omega) (by omega), w]
      rw [if_pos (by omega), if_pos (by omega), if_pos (by omega), if_pos (by omega)]
    · rw [List.append_assoc]; exact h
theorem sel_rng (D : List Bool) (w : Nat) (hw : w ≤ 60) : ∀ x ∈ sel D w 0, 0 ≤ x ∧ x < 60 := by
  intro x hx
  obtain ⟨j, e, _, b, _⟩ := (sel_mem D x w 0).1 hx
  omega
theorem sumT : ∀ (l : List Int), (∀ c ∈ l, 0 ≤ stT c) → (((l.map spec_l05Ladder.T).sum : Nat) : Int) = (l.map stT).sum ∧ (((l.map spec_l05Ladder.M).sum : Nat) : Int) = (l.map stM).sum
  | [], _ => by simp
  | c :: l, h => by
    obtain ⟨a, b⟩ := sumT l (fun x hx => h x (List.mem_cons_of_mem _ hx))
    obtain ⟨e1, e2, _⟩ := T_eq (h c List.mem_cons_self)
    simp only [List.map_cons, List.sum_cons]
    constructor
    · rw [← a, ← e1]; omega
    · rw [← b, ← e2]; omega
/-- What a valid fabric's rows are: so many stitches, from so many loops to so many. -/
theorem row_facts {a : Int} {l : List ByteArray} (h : okF a l = true) (j : Nat) (hj : j < l.length) :
    (∀ c ∈ bytesOf l[j], 0 ≤ stT c) ∧ (((bytesOf l[j]).map spec_l05Ladder.T).sum : Int) = rd (WL a l) (j : Int) ∧ (((bytesOf l[j]).map spec_l05Ladder.M).sum : Int) = rd (WL a l) ((j : Int) + 1) ∧ (0 ≤ rd (WL a l) (j : Int) ∧ rd (WL a l) (j : Int) ≤ 60) ∧ (0 ≤ rd (WL a l) ((j : Int) + 1) ∧ rd (WL a l) ((j : Int) + 1) ≤ 60) := by
  obtain ⟨h1, h2, h3⟩ := okF_rows h
  have hb : bad (wrap64 a) l 0 < 0 := by unfold okF at h; exact (of_decide_eq_true h).2
  obtain ⟨q, q1, q2⟩ := rows_take l (wrap64 a) 0 (by omega) hb j hj
  obtain ⟨q', q3, q4, q5⟩ := h3 l[j] (List.getElem_mem hj)
  rw [q1] at q3
  have e := Option.some.inj q3
  subst e
  have hn := rowS_nonneg _ _ q1
  obtain ⟨s1, s2⟩ := sumT _ hn
  have t1 := rowS_sum _ _ q1
  have t2 := rowS_sumM _ _ q1
  have bb := rowS_bound _ _ q1
  have eW : rd (WL a l) (j : Int) = q.1 := by rw [q2]; rfl
  have eM : rd (WL a l) ((j : Int) + 1) = q.2.1 := by
    have e : ((j : Int) + 1).toNat = j + 1 := by omega
    unfold rd WL
    rw [e, List.getD_cons_succ]
    simp [List.getD, hj, mkOf, q1]
  rw [eW, eM]
  exact ⟨hn, by omega, by omega, by omega, by omega⟩
theorem ladder_down {a : Int} {l : List ByteArray} (h : okF a l = true) (hs : ∀ x ∈ l, (x.size : Int) ≤ 1048576) : ∀ (r : Nat) (D : List Bool) (out : List S147), r ≤ l.length → out.length ≤ 60 * (30 - r) →
    Ev (fun k => impl_Fabric_ladder.l0 k out (r : Int) a l (sel D (rd (WL a l) (r : Int)).toNat 0)) (out ++ spec_l05Ladder.down (WL a l) l r D) := by
  obtain ⟨h1, h2, h3⟩ := okF_rows h
  have wbd : ∀ r : Nat, r ≤ l.length → 0 ≤ rd (WL a l) (r : Int) ∧ rd (WL a l) (r : Int) ≤ 60 := by
    intro r hr
    cases r with
    | zero =>
      have : rd (WL a l) ((0 : Nat) : Int) = wrap64 a := by unfold rd WL; simp
      rw [this]; omega
    | succ r => exact (row_facts h r (by omega)).2.2.2.2
  intro r
  induction r with
  | zero =>
    intro D out hr ho
    obtain ⟨w0, w1⟩ := wbd 0 hr
    have hw : (rd (WL a l) ((0 : Nat) : Int)).toNat ≤ 60 := by omega
    have sl := sel_len D (rd (WL a l) ((0 : Nat) : Int)).toNat 0
    refine Ev.step (f := fun k => impl_Fabric_ladder.l1 k out ((0 : Nat) : Int) (sel D (rd (WL a l) ((0 : Nat) : Int)).toNat 0) ((sel D (rd (WL a l) ((0 : Nat) : Int)).toNat 0).length : Int) ((0 : Nat) : Int) a l (sel D (rd (WL a l) ((0 : Nat) : Int)).toNat 0)) (fun k => rfl) ?_
    refine ladder_put a l _ 0 (sel D (rd (WL a l) ((0 : Nat) : Int)).toNat 0) (by omega) (sel_rng D _ hw) _ 0 out (Nat.zero_add _) (by omega) ?_
    refine Ev.step (f := fun _ => some (out ++ ((sel D (rd (WL a l) ((0 : Nat) : Int)).toNat 0).drop 0).map (fun p => (⟨IntKind.i16.wrap ((0 : Nat) : Int), p⟩ : S147)))) (fun k => ?_) (ev_id (Ev.now _) ?_)
    · simp only [impl_Fabric_ladder.l1]; rw [if_neg (by omega), if_pos (by simp)]
    · rw [List.drop_zero]
      show _ = out ++ spec_l05Ladder.row 0 D (rd (WL a l) ((0 : Nat) : Int)).toNat 0
      rw [row_sel]
  | succ r ih =>
    intro D out hr ho
    obtain ⟨w0, w1⟩ := wbd (r + 1) hr
    have hrl : r < l.length := by omega
    obtain ⟨hn, sT, sM, b1, b2⟩ := row_facts h r hrl
    have e1 : (((r + 1 : Nat) : Int)) = (r : Int) + 1 := by omega
    rw [← e1] at sM b2
    have hw : (rd (WL a l) (((r + 1 : Nat) : Int))).toNat ≤ 60 := by omega
    have sl := sel_len D (rd (WL a l) (((r + 1 : Nat) : Int))).toNat 0
    have IH := ih (spec_l05Ladder.next D (bytesOf l[r]) 0 0 (List.replicate 60 false)) (out ++ (sel D (rd (WL a l) (((r + 1 : Nat) : Int))).toNat 0).map (fun p => (⟨IntKind.i16.wrap ((r + 1 : Nat) : Int), p⟩ : S147))) (by omega) (by rw [List.length_append, List.length_map]; omega)
    have es : sel (spec_l05Ladder.next D (bytesOf l[r]) 0 0 (List.replicate 60 false)) (rd (WL a l) (r : Int)).toNat 0 = nx D (bytesOf l[r]) 0 0 := by
      have := next_sel D (bytesOf l[r]) 0 0 (List.replicate 60 false) (by simp; omega)
      rw [← this]; congr 1; omega
    rw [es] at IH
    refine Ev.step (f := fun k => impl_Fabric_ladder.l1 k out ((r + 1 : Nat) : Int) (sel D (rd (WL a l) (((r + 1 : Nat) : Int))).toNat 0) ((sel D (rd (WL a l) (((r + 1 : Nat) : Int))).toNat 0).length : Int) ((0 : Nat) : Int) a l (sel D (rd (WL a l) (((r + 1 : Nat) : Int))).toNat 0)) (fun k => rfl) ?_
    refine ladder_put a l _ (r + 1) (sel D (rd (WL a l) (((r + 1 : Nat) : Int))).toNat 0) (by omega) (sel_rng D _ hw) _ 0 out (Nat.zero_add _) (by omega) ?_
    have wz : wrap64 (((r + 1 : Nat) : Int) - 1) = (r : Int) := by rw [wr (by omega) (by omega)]; omega
    have hz := hs l[r] (List.getElem_mem hrl)
    have hrl2 : (r : Int) < (l.length : Int) := by omega
    have hrl0 : (0 : Int) ≤ (r : Int) := by omega
    have hbl := bytesOf_len l[r]
    refine Ev.step (f := fun k => (impl_stitches.f k l[r]).bind fun t211 => impl_Fabric_ladder.l2 k (out ++ ((sel D (rd (WL a l) (((r + 1 : Nat) : Int))).toNat 0).drop 0).map (fun p => (⟨IntKind.i16.wrap ((r + 1 : Nat) : Int), p⟩ : S147))) ((r + 1 : Nat) : Int) ([] : List Int) t211 (t211.length : Int) 0 a l (sel D (rd (WL a l) (((r + 1 : Nat) : Int))).toNat 0)) (fun k => ?_) ?_
    · simp only [impl_Fabric_ladder.l1, wz, rdS hrl]
      rw [if_neg (by omega), if_neg (by omega), if_pos hrl0, if_pos hrl2]
    · refine Ev.bind (impl_stitches_ev l[r] (by omega) hn) ?_
      refine ladder_in a _ l _ D _ hw (stL (bytesOf l[r]) 0 0) (by rw [stL_len]; omega) _ (stL (bytesOf l[r]) 0 0).length 0 0 0 (bytesOf l[r]) [] (by omega) (by simp) hn (by omega) (by omega) (by simp) ?_
      rw [wz, List.drop_zero, List.nil_append]
      refine ev_id IH ?_
      rw [List.append_assoc]
      congr 1
      have ed : spec_l05Ladder.down (WL a l) l (r + 1) D = spec_l05Ladder.row (r + 1) D (rd (WL a l) ((r + 1 : Nat) : Int)).toNat 0 ++ spec_l05Ladder.down (WL a l) l r (spec_l05Ladder.next D (bytesOf (rdOf ByteArray.empty l (r : Int))) 0 0 (List.replicate 60 false)) := rfl
      rw [ed, rdS hrl, row_sel]
/-- The ladder of a loop of the last row. -/
def ladL (a : Int) (l : List ByteArray) (p : Int) : List S147 := spec_l05Ladder.down (WL a l) l l.length ((List.replicate 60 false).set p.toNat true)
theorem down_len (a : Int) (l : List ByteArray) (hw : ∀ x ∈ WL a l, 0 ≤ x ∧ x ≤ 60) : ∀ (r : Nat) (D : List Bool), r ≤ l.length → (spec_l05Ladder.down (WL a l) l r D).length ≤ 60 * (r + 1) := by
  have rb : ∀ r : Nat, r ≤ l.length → (rd (WL a l) (r : Int)).toNat ≤ 60 := by
    intro r hr
    have hl : r < (WL a l).length := by rw [WL_len]; omega
    rw [rd_lt hl]
    have := hw _ (List.getElem_mem hl)
    omega
  intro r
  induction r with
  | zero =>
    intro D hr
    show (spec_l05Ladder.row 0 D (rd (WL a l) ((0 : Nat) : Int)).toNat 0).length ≤ _
    rw [row_sel, List.length_map]
    have := sel_len D (rd (WL a l) ((0 : Nat) : Int)).toNat 0
    have := rb 0 hr
    omega
  | succ r ih =>
    intro D hr
    show (spec_l05Ladder.row (r + 1) D (rd (WL a l) ((r + 1 : Nat) : Int)).toNat 0 ++ _).length ≤ _
    rw [row_sel, List.length_append, List.length_map]
    have := sel_len D (rd (WL a l) ((r + 1 : Nat) : Int)).toNat 0
    have := rb (r + 1) hr
    have := ih (spec_l05Ladder.next D (bytesOf (rdOf ByteArray.empty l (r : Int))) 0 0 (List.replicate 60 false)) (by omega)
    omega
theorem WL_rng {a : Int} {l : List ByteArray} (h : okF a l = true) : ∀ x ∈ WL a l, 0 ≤ x ∧ x ≤ 60 := by
  intro x hx
  obtain ⟨h1, _, _⟩ := okF_rows h
  obtain ⟨j, hj, rfl⟩ := List.mem_iff_getElem.1 hx
  rw [WL_len] at hj
  cases j with
  | zero => simp [WL]; omega
  | succ j =>
    have := (row_facts h j (by omega)).2.2.2.2
    have hl : j + 1 < (WL a l).length := by rw [WL_len]; omega
    have e : ((j : Int) + 1) = ((j + 1 : Nat) : Int) := by omega
    rw [e, rd_lt hl] at this
    exact this
theorem ladL_len {a : Int} {l : List ByteArray} (h : okF a l = true) (p : Int) : (ladL a l p).length ≤ 1860 := by
  have := down_len a l (WL_rng h) l.length ((List.replicate 60 false).set p.toNat true) (Nat.le_refl _)
  have := (okF_rows h).2.1
  unfold ladL; omega
/-- Where a loop of the last row drops, both tell the same ladder. -/
theorem ladder_ev {a : Int} {l : List ByteArray} (h : okF a l = true) (hs : ∀ x ∈ l, (x.size : Int) ≤ 1048576) (p : Int) (h0 : 0 ≤ p) (h1 : p < rd (WL a l) (l.length : Int)) :
    Ev (fun k => spec_l05Ladder.f k a l p (-1)) (ladL a l p) ∧ Ev (fun k => impl_Fabric_ladder.f k a l p) (ladL a l p) := by
  obtain ⟨o1, o2, o3⟩ := okF_rows h
  have hl : l.length < (WL a l).length := by rw [WL_len]; omega
  have hwb := WL_rng h _ (List.getElem_mem hl)
  rw [← rd_lt hl] at hwb
  obtain ⟨P, rfl⟩ := Int.eq_ofNat_of_zero_le h0
  have hf : spec_l05Ladder.fits (WL a l) l (P : Int) (-1) = true := by
    unfold spec_l05Ladder.fits
    simp only [Bool.and_eq_true, decide_eq_true_eq, List.all_eq_true]
    refine ⟨⟨⟨⟨⟨WL_len a l, o2⟩, WL_rng h⟩, ?_⟩, by omega⟩, trivial⟩
    intro s hsm
    obtain ⟨j, hj, rfl⟩ := List.mem_iff_getElem.1 hsm
    obtain ⟨r1, r2, r3, r4, r5⟩ := row_facts h j hj
    unfold spec_l05Ladder.rowOk
    simp only [Bool.and_eq_true, decide_eq_true_eq, List.all_eq_true]
    refine ⟨⟨⟨?_, fun c hc => (T_eq (r1 c hc)).2.2⟩, by omega⟩, by omega⟩
    have := hs l[j] (List.getElem_mem hj)
    omega
  constructor
  · unfold spec_l05Ladder.f
    refine Ev.bind (spec_widths_ev a l (by omega) (fun x hx => by have := hs x hx; omega)) ?_
    have e : (wrap64 a :: l.map mkOf) = WL a l := rfl
    rw [e]
    simp only [if_pos hf]
    exact Ev.now _
  · unfold impl_Fabric_ladder.f
    have z := ladder_down h hs l.length ((List.replicate 60 false).set P true) [] (Nat.le_refl _) (by simp)
    have e : sel ((List.replicate 60 false).set P true) (rd (WL a l) (l.length : Int)).toNat 0 = [(P : Int)] := by
      have hp : P < 60 := by omega
      have hg : ∀ j, ((List.replicate 60 false).set P true).getD j false = decide (j = P) := by
        intro j
        rw [getD_set _ _ _ _ (by simp; omega)]
        by_cases e : j = P
        · simp [e]
        · rw [if_neg e]
          have : (List.replicate 60 false).getD j false = false := by
            rw [List.getD_eq_getElem?_getD, List.getElem?_replicate]; split <;> rfl
          rw [this]; simp [e]
      have hw : (rd (WL a l) (l.length : Int)).toNat = P + (1 + ((rd (WL a l) (l.length : Int)).toNat - P - 1)) := by omega
      rw [hw, sel_add, sel_add, sel_const _ false _ _ (fun j _ b => by rw [hg]; simp; omega), sel_const _ true 1 _ (fun j b c => by rw [hg]; simp; omega), sel_const _ false _ _ (fun j b _ => by rw [hg]; simp; omega)]
      simp [ivl]
    rw [e] at z
    exact z
theorem spec_last_ev {a : Int} {l : List ByteArray} (h : okF a l = true) (hl : (l.length : Int) ≤ 1048576) (hs : ∀ x ∈ l, x.size ≤ 140737488351232) (p : Int) :
    Ev (fun k => spec_l05Last.f k a l p) (decide (0 ≤ p ∧ p < rd (WL a l) (l.length : Int))) := by
  unfold spec_l05Last.f
  refine Ev.bind (spec_widths_ev a l (by omega) hs) ?_
  have e : (wrap64 a :: l.map mkOf) = WL a l := rfl
  rw [e]
  have hL := WL_len a l
  have e1 : wrap64 (((WL a l).length : Int) - 1) = (l.length : Int) := by rw [wr (by omega) (by omega)]; omega
  have hl2 : l.length < (WL a l).length := by omega
  have hwb := WL_rng h _ (List.getElem_mem hl2)
  rw [← rd_lt hl2] at hwb
  simp only [e1]
  have c1 : (0 : Int) ≤ (l.length : Int) := by omega
  have c2 : (l.length : Int) < ((WL a l).length : Int) := by omega
  simp only [if_pos c1, if_pos c2, l00In_f, Option.bind_some, wr (n := rd (WL a l) (l.length : Int) - 1) (by omega) (by omega)]
  refine ev_id (Ev.now _) ?_
  rw [decide_eq_decide]
  omega
/-- The worst loop from p on. -/
def worstF (a : Int) (l : List ByteArray) : Nat → Int → Int → Int → Int × Int
  | 0, b, m, _ => (b, m)
  | n + 1, b, m, p => if ((ladL a l p).length : Int) > m then worstF a l n p ((ladL a l p).length : Int) (p + 1) else worstF a l n b m (p + 1)
theorem worstF_ge (a : Int) (l : List ByteArray) : ∀ n b m p, m ≤ (worstF a l n b m p).2
  | 0, _, _, _ => Int.le_refl _
  | n + 1, b, m, p => by
    simp only [worstF]
    split
    · have := worstF_ge a l n p ((ladL a l p).length : Int) (p + 1); omega
    · exact worstF_ge a l n b m (p + 1)
theorem ladL_pos {a : Int} {l : List ByteArray} (h : okF a l = true) (p : Int) (h0 : 0 ≤ p) (h1 : p < rd (WL a l) (l.length : Int)) : 0 < (ladL a l p).length := by
  have hl : l.length < (WL a l).length := by rw [WL_len]; omega
  have hwb := WL_rng h _ (List.getElem_mem hl)
  rw [← rd_lt hl] at hwb
  obtain ⟨P, rfl⟩ := Int.eq_ofNat_of_zero_le h0
  have hg : ((List.replicate 60 false).set P true).getD P false = true := by
    rw [getD_set _ _ _ _ (by simp; omega), if_pos rfl]
  have hm : (P : Int) ∈ sel ((List.replicate 60 false).set P true) (rd (WL a l) (l.length : Int)).toNat 0 := (sel_mem _ _ _ _).2 ⟨P, rfl, by omega, by omega, hg⟩
  unfold ladL
  have hd := spec_l05Ladder.down_eq (WL a l) l l.length ((List.replicate 60 false).set (P : Int).toNat true)
  rw [hd, row_sel, List.length_append, List.length_map, Int.toNat_natCast]
  have := List.length_pos_of_mem hm
  omega
theorem Worst_same (a : Int) (l : List ByteArray) (hl : (l.length : Int) ≤ 1048576) (hs : ∀ x ∈ l, (x.size : Int) ≤ 1048576) : Same (fun k => spec_WorstLoop.f k a l) (fun k => impl_WorstLoop.f k a l) := by
  have hs' : ∀ x ∈ l, x.size ≤ 140737488351232 := fun x hx => by have := hs x hx; omega
  have s1 := spec_okF a l (by omega) hs'
  have i1 := impl_okF a l (by omega) hs'
  unfold spec_WorstLoop.f impl_WorstLoop.f
  by_cases ho : okF a l = true
  · rw [ho] at s1 i1
    have il := impl_last_ev a l (by omega) hs'
    have eW : lastW a l = rd (WL a l) (l.length : Int) := rfl
    rw [eW] at il
    have hl2 : l.length < (WL a l).length := by rw [WL_len]; omega
    have hwb := WL_rng ho _ (List.getElem_mem hl2)
    rw [← rd_lt hl2] at hwb
    have loop : ∀ (d : Nat) (b m p : Int), 0 ≤ p → p + d = rd (WL a l) (l.length : Int) → 0 ≤ m →
        Ev (fun k => spec_WorstLoop.l0 k b m p a l) (if (worstF a l d b m p).2 = 0 then (0, 0, 6) else ((worstF a l d b m p).1, (worstF a l d b m p).2, 0)) ∧ Ev (fun k => impl_WorstLoop.l0 k b m (rd (WL a l) (l.length : Int)) p a l) ((worstF a l d b m p).1, (worstF a l d b m p).2, 0) := by
      intro d
      induction d with
      | zero =>
        intro b m p h0 hp hm
        have sl := spec_last_ev ho hl hs' p
        rw [decide_eq_false (by omega)] at sl
        constructor
        · refine Ev.step (f := fun k => (spec_l05Last.f k a l p).bind fun t => if t = true then (spec_l05Ladder.f k a l p (-1)).bind fun t131 => (if (t131.length : Int) > m then (spec_WorstLoop.l0 k p (t131.length : Int) (wrap64 (p + 1)) a l) else (spec_WorstLoop.l0 k b m (wrap64 (p + 1)) a l)) else (if m = 0 then (some (0, 0, 6)) else (some (b, m, 0)))) (fun k => rfl) (Ev.bind sl ?_)
          simp only [Bool.false_eq_true, if_false, worstF]
          by_cases h : m = 0
          · simp only [if_pos h]; exact ev_id (Ev.now _) (if_pos h).symm
          · simp only [if_neg h]; exact ev_id (Ev.now _) (if_neg h).symm
        · refine Ev.step (f := fun _ => some (b, m, 0)) (fun k => ?_) (Ev.now _)
          simp only [impl_WorstLoop.l0]; rw [if_neg (by omega)]
      | succ d ih =>
        intro b m p h0 hp hm
        have sl := spec_last_ev ho hl hs' p
        have hpl : p < rd (WL a l) (l.length : Int) := by omega
        rw [decide_eq_true ⟨h0, hpl⟩] at sl
        obtain ⟨f1, f2⟩ := ladder_ev ho hs p h0 hpl
        have wp : wrap64 (p + 1) = p + 1 := wr (by omega) (by omega)
        obtain ⟨a1, a2⟩ := ih p ((ladL a l p).length : Int) (p + 1) (by omega) (by omega) (by omega)
        obtain ⟨b1, b2⟩ := ih b m (p + 1) (by omega) (by omega) hm
        simp only [worstF]
        constructor
        · refine Ev.step (f := fun k => (spec_l05Last.f k a l p).bind fun t => if t = true then (spec_l05Ladder.f k a l p (-1)).bind fun t131 => (if (t131.length : Int) > m then (spec_WorstLoop.l0 k p (t131.length : Int) (wrap64 (p + 1)) a l) else (spec_WorstLoop.l0 k b m (wrap64 (p + 1)) a l)) else (if m = 0 then (some (0, 0, 6)) else (some (b, m, 0)))) (fun k => rfl) (Ev.bind sl ?_)
          simp only [if_true]
          refine Ev.bind f1 ?_
          rw [wp]
          by_cases h : ((ladL a l p).length : Int) > m
          · simp only [if_pos h]; exact a1
          · simp only [if_neg h]; exact b1
        · refine Ev.step (f := fun k => (impl_Fabric_ladder.f k a l p).bind fun t219 => ((impl_Loop.f t219).bind fun t222 => (if t222 > m then (impl_WorstLoop.l0 k p t222 (rd (WL a l) (l.length : Int)) (wrap64 (p + 1)) a l) else (impl_WorstLoop.l0 k b m (rd (WL a l) (l.length : Int)) (wrap64 (p + 1)) a l)))) (fun k => by simp only [impl_WorstLoop.l0]; rw [if_pos hpl]) (Ev.bind f2 ?_)
          simp only [impl_Loop.f, Option.bind_some]
          rw [wp]
          by_cases h : ((ladL a l p).length : Int) > m
          · simp only [if_pos h]; exact a2
          · simp only [if_neg h]; exact b2
    by_cases h0 : rd (WL a l) (l.length : Int) = 0
    · obtain ⟨z1, _⟩ := loop 0 0 0 0 (by omega) (by omega) (by omega)
      refine ⟨(0, 0, 6), Ev.bind s1 ?_, Ev.bind i1 ?_⟩
      · simp only [if_true]; exact z1
      · simp only [if_true]
        refine Ev.bind il ?_
        simp only [if_pos h0]; exact Ev.now _
    · obtain ⟨z1, z2⟩ := loop (rd (WL a l) (l.length : Int)).toNat 0 0 0 (by omega) (by omega) (by omega)
      have hpos : 0 < (worstF a l (rd (WL a l) (l.length : Int)).toNat 0 0 0).2 := by
        have hp := ladL_pos ho 0 (by omega) (by omega)
        obtain ⟨n, hn⟩ : ∃ n, (rd (WL a l) (l.length : Int)).toNat = n + 1 := ⟨(rd (WL a l) (l.length : Int)).toNat - 1, by omega⟩
        rw [hn]
        simp only [worstF]
        rw [if_pos (by omega)]
        have := worstF_ge a l n 0 ((ladL a l 0).length : Int) (0 + 1)
        omega
      rw [if_neg (by omega)] at z1
      refine ⟨((worstF a l (rd (WL a l) (l.length : Int)).toNat 0 0 0).1, (worstF a l (rd (WL a l) (l.length : Int)).toNat 0 0 0).2, 0), Ev.bind s1 ?_, Ev.bind i1 ?_⟩
      · simp only [if_true]; exact z1
      · simp only [if_true]
        refine Ev.bind il ?_
        simp only [if_neg h0]
        exact Ev.bind il z2
  · rw [Bool.not_eq_true] at ho
    rw [ho] at s1 i1
    refine ⟨(0, 0, 1), Ev.bind s1 ?_, Ev.bind i1 ?_⟩
    · simp only [Bool.false_eq_true, if_false]; exact Ev.now _
    · simp only [Bool.false_eq_true, if_false]; exact Ev.now _
theorem FnExactWorstLoop : laws_FnExactWorstLoop.Pure := by
  intro a l _ ⟨hl, hs⟩
  refine Ev.rounds ?_
  unfold laws_FnExactWorstLoop.f
  obtain ⟨r, e, hr⟩ := szFabric_ev a l 1048576 (by omega) hs (by omega) (by omega)
  refine Ev.bind e ?_
  rcases hr with rfl | ⟨h0, h1, h2, h3⟩
  · simp only [show ((-1 : Int) < 0) from by omega, if_true]; exact Ev.now _
  · have hneg : ¬ (r < 0) := by omega
    simp only [if_neg hneg]
    have ht := toFabric_ev a l (by omega)
    obtain ⟨⟨r1, r2, r3⟩, f1, f2⟩ := Worst_same a l (by omega) (fun x hx => by have := h3 x hx; omega)
    refine Ev.bind ht (Ev.bind f1 (Ev.bind ht (Ev.bind f2 ?_)))
    simp only [if_true, bne_self_eq_false]
    refine Ev.step (fun k => by simp only [laws_FnExactWorstLoop.j0, Bool.false_eq_true, if_false]; rfl) (Ev.bind ht (Ev.bind (eqFabric_self a l (by omega)) ?_))
    simp only [if_true]; exact Ev.now _
end Go.Proofs.Ytjhjabibkkhmjaa.Pure
