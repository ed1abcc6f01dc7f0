/- The program's FromOf and the reference's give the same answer at every fabric and loop; no conditions. -/
import Derived.Test.YtjhafhejdlmcmaaXFnExactFromOfx6
namespace Go.Proofs.Ytjhafhejdlmcmaa.Pure
open Go.RowKit Go.Proofs.Ytjhafhejdlmcmaa.XFnExactFromOf Go.Proofs.YtjhafhejdlmcmaaW.PrintWords Go.Proofs.YtjhafhejdlmcmaaW.PrintLast
set_option linter.unusedVariables false
set_option linter.unusedSimpArgs false
theorem wr {n : Int} (h0 : -9223372036854775808 ≤ n) (h1 : n ≤ 9223372036854775807) : wrap64 n = n := by
  unfold wrap64; omega
theorem wf64 {a : Int} (h : (Lit.int .i64 a).wf = true) : -9223372036854775808 ≤ a ∧ a ≤ 9223372036854775807 := by
  simp only [Lit.wf, IntKind.min, IntKind.max, IntKind.signed, IntKind.bits, Bool.and_eq_true, decide_eq_true_eq, if_true] at h
  omega
theorem ev_id {α : Type} {g : Nat → Option α} {r s : α} (h : Ev g r) (e : r = s) : Ev g s := e ▸ h
theorem ev_const {α : Type} {o : Option α} {r : α} (h : o = some r) : Ev (fun _ => o) r := ⟨0, fun _ _ => h⟩
theorem ev_fun {α : Type} {g : Nat → Option α} {r s : α} (h : Ev g r) (k : Ev g s) : r = s := by
  obtain ⟨a, h⟩ := h
  obtain ⟨b, k⟩ := k
  have x := h (max a b) (by omega)
  have y := k (max a b) (by omega)
  rw [x] at y; exact Option.some.inj y
/-- Both come to one answer. -/
def Same {α : Type} (g f : Nat → Option α) : Prop := ∃ r, Ev g r ∧ Ev f r
theorem Same.step {α : Type} {g f g' f' : Nat → Option α} (hg : ∀ k, g (k + 1) = g' k) (hf : ∀ k, f (k + 1) = f' k) (h : Same g' f') : Same g f := by
  obtain ⟨r, a, b⟩ := h
  exact ⟨r, Ev.step hg a, Ev.step hf b⟩
theorem Same.left {α : Type} {g f g' : Nat → Option α} (hg : ∀ k, g (k + 1) = g' k) (h : Same g' f) : Same g f := by
  obtain ⟨r, a, b⟩ := h
  exact ⟨r, Ev.step hg a, b⟩
theorem Same.right {α : Type} {g f f' : Nat → Option α} (hf : ∀ k, f (k + 1) = f' k) (h : Same g f') : Same g f := by
  obtain ⟨r, a, b⟩ := h
  exact ⟨r, a, Ev.step hf b⟩
theorem Same.now {α : Type} (r : α) : Same (fun _ => some r) (fun _ => some r) := ⟨r, Ev.now r, Ev.now r⟩
theorem if_dec {α : Type} {p : Prop} [Decidable p] (a b : α) : (if decide p = true then a else b) = if p then a else b := by
  by_cases h : p <;> simp [h]
theorem w00 : wrap64 0 = 0 := wr (by omega) (by omega)
theorem l00In_f (a b c : Int) : spec_l00In.f a b c = some (decide (b ≤ a ∧ a ≤ c)) := by
  unfold spec_l00In.f
  by_cases h : b ≤ a <;> simp [h]
theorem within_f (a b c : Int) : impl_within.f a b c = some (decide (b ≤ a ∧ a ≤ c)) := by
  unfold impl_within.f
  by_cases h : b ≤ a <;> simp [h]
theorem rd_lt {l : List Int} {i : Nat} (h : i < l.length) : rd l (i : Int) = l[i] := by
  unfold rd; simp [List.getD, h]
theorem eqInt64S_loop (a b : List Int) (hab : a.length = b.length) (hn : (a.length : Int) ≤ 4611686018427387904) (d : Nat) : ∀ (i : Nat), i ≤ a.length → a.length - i = d →
    Ev (fun k => laws_eqInt64S.l0 k a b (i : Int)) (decide (a.drop i = b.drop i)) := by
  induction d with
  | zero =>
    intro i hi hd
    refine Ev.step (f := fun _ => some (decide (a.drop i = b.drop i))) (fun k => ?_) (Ev.now _)
    simp only [laws_eqInt64S.l0]
    rw [if_neg (by omega), List.drop_eq_nil_of_le (by omega), List.drop_eq_nil_of_le (by omega)]; simp
  | succ d ih =>
    intro i hi hd
    have ha : i < a.length := by omega
    have hb : i < b.length := by omega
    by_cases e : a[i] = b[i]
    · refine Ev.step (fun k => ?_) (ev_id (ih (i + 1) (by omega) (by omega)) ?_)
      · simp only [laws_eqInt64S.l0]
        rw [if_pos (by omega), if_pos (by omega), if_pos (by omega), rd_lt ha, rd_lt hb, if_pos e, wr (by omega) (by omega)]; rfl
      · simp only [List.drop_eq_getElem_cons ha, List.drop_eq_getElem_cons hb, List.cons.injEq, e, true_and]
    · refine Ev.step (f := fun _ => some false) (fun k => ?_) (ev_id (Ev.now _) ?_)
      · simp only [laws_eqInt64S.l0]
        rw [if_pos (by omega), if_pos (by omega), if_pos (by omega), rd_lt ha, rd_lt hb, if_neg e]
      · simp only [List.drop_eq_getElem_cons ha, List.drop_eq_getElem_cons hb, List.cons.injEq, e, false_and, decide_false]
theorem eqInt64S_ev (a b : List Int) (hn : (a.length : Int) ≤ 4611686018427387904) : Ev (fun k => laws_eqInt64S.f k a b) (decide (a = b)) := by
  unfold laws_eqInt64S.f
  by_cases h : a.length = b.length
  · simp only [h, if_true]
    simpa using eqInt64S_loop a b h hn a.length 0 (by omega) (by omega)
  · have h' : ¬ (a.length : Int) = b.length := by omega
    simp only [if_neg h']
    have : a ≠ b := fun e => h (by rw [e])
    simpa [this] using Ev.now false
theorem eqInt64S_self (a : List Int) (hn : (a.length : Int) ≤ 4611686018427387904) : Ev (fun k => laws_eqInt64S.f k a a) true := by
  simpa using eqInt64S_ev a a hn
theorem markInt64S_loop (d : Nat) : ∀ (a p : List Int) (m : Int) (i : Nat), i + d = a.length → (a.length : Int) ≤ 4611686018427387904 → m = 1 + i → (∀ j (h : j < a.length), j < i → a[j] = 1 + (j : Int)) →
    ∃ r : List Int, Ev (fun k => laws_markInt64S.l0 k a m (i : Int)) (1 + (a.length : Int), r) ∧ r.length = a.length ∧ ∀ j (h : j < r.length), r[j] = 1 + (j : Int) := by
  induction d with
  | zero =>
    intro a p m i hi hn hm ha
    refine ⟨a, Ev.step (f := fun _ => some (1 + (a.length : Int), a)) (fun k => ?_) (Ev.now _), rfl, fun j h => ha j h (by omega)⟩
    simp only [laws_markInt64S.l0]
    rw [if_neg (by omega), show m = 1 + (a.length : Int) by omega]
  | succ d ih =>
    intro a p m i hi hn hm ha
    obtain ⟨r, h1, h2, h3⟩ := ih (a.set i m) p (m + 1) (i + 1) (by simp; omega) (by simpa using hn) (by omega) (by
      intro j h hj
      simp only [List.getElem_set]
      split
      · omega
      · exact ha j (by simpa using h) (by omega))
    simp only [List.length_set] at h1 h2
    refine ⟨r, Ev.step (fun k => ?_) h1, h2, h3⟩
    simp only [laws_markInt64S.l0]
    rw [if_pos (by omega), if_pos (by omega), wr (n := m + 1) (by omega) (by omega), wr (n := (i : Int) + 1) (by omega) (by omega)]; rfl
theorem heldInt64S_loop (a : List Int) (hn : (a.length : Int) ≤ 4611686018427387904) (ha : ∀ j (h : j < a.length), a[j] = 1 + (j : Int)) (d : Nat) : ∀ (i : Nat), i + d = a.length →
    Ev (fun k => laws_heldInt64S.l0 k a (1 + (i : Int)) (i : Int)) (1 + (a.length : Int)) := by
  induction d with
  | zero =>
    intro i hi
    refine Ev.step (f := fun _ => some (1 + (a.length : Int))) (fun k => ?_) (Ev.now _)
    simp only [laws_heldInt64S.l0]
    rw [if_neg (by omega), show i = a.length by omega]
  | succ d ih =>
    intro i hi
    refine Ev.step (fun k => ?_) (ih (i + 1) (by omega))
    simp only [laws_heldInt64S.l0]
    rw [if_pos (by omega), if_pos (by omega), rd_lt (by omega), if_pos (ha i (by omega)), wr (n := 1 + (i : Int) + 1) (by omega) (by omega), wr (n := (i : Int) + 1) (by omega) (by omega), show 1 + (i : Int) + 1 = 1 + ((i + 1 : Nat) : Int) by omega]; rfl
/-- What has been marked is held. -/
theorem markInt64S_ev (a : List Int) (hn : (a.length : Int) ≤ 4611686018427387904) :
    ∃ r : List Int, Ev (fun k => laws_markInt64S.f k a 1) (1 + (a.length : Int), r) ∧ Ev (fun k => laws_heldInt64S.f k r 1) (1 + (a.length : Int)) := by
  obtain ⟨r, h1, h2, h3⟩ := markInt64S_loop a.length a a 1 0 (by omega) hn (by omega) (fun j h hj => by omega)
  refine ⟨r, h1, ?_⟩
  have := heldInt64S_loop r (by omega) h3 r.length 0 (by omega)
  rw [h2] at this
  exact this
theorem rdS {l : List ByteArray} {i : Nat} (h : i < l.length) : rdOf ByteArray.empty l (i : Int) = l[i] := by
  unfold rdOf; simp [List.getD, h]
theorem eqStringS_loop (a : List ByteArray) (hn : (a.length : Int) ≤ 4611686018427387904) (d : Nat) : ∀ (i : Nat), i + d = a.length →
    Ev (fun k => laws_eqStringS.l0 k a a (i : Int)) true := by
  induction d with
  | zero =>
    intro i hi
    refine Ev.step (f := fun _ => some true) (fun k => ?_) (Ev.now _)
    simp only [laws_eqStringS.l0]; rw [if_neg (by omega)]
  | succ d ih =>
    intro i hi
    refine Ev.step (fun k => ?_) (ih (i + 1) (by omega))
    simp only [laws_eqStringS.l0, if_true]
    rw [if_pos (by omega), if_pos (by omega), if_pos (by omega), wr (n := (i : Int) + 1) (by omega) (by omega)]; rfl
theorem eqStringS_self (a : List ByteArray) (hn : (a.length : Int) ≤ 4611686018427387904) : Ev (fun k => laws_eqStringS.f k a a) true := by
  unfold laws_eqStringS.f
  simp only [if_true]
  exact eqStringS_loop a hn a.length 0 (by omega)
theorem szString_loop (l : List ByteArray) (hl : (l.length : Int) ≤ 140737488351232) (hs : ∀ x ∈ l, x.size ≤ 140737488351232) (d : Nat) : ∀ (i : Nat) (a : Int), i + d = l.length → 0 ≤ a → a ≤ 1048576 →
    ∃ r, Ev (fun k => laws_szStringS.l0 k l a (i : Int)) r ∧ (r = -1 ∨ (0 ≤ r ∧ r ≤ a ∧ ∀ x ∈ l.drop i, (x.size : Int) ≤ a)) := by
  induction d with
  | zero =>
    intro i a hi h0 h1
    refine ⟨a, Ev.step (f := fun _ => some a) (fun k => ?_) (Ev.now _), .inr ⟨h0, Int.le_refl _, ?_⟩⟩
    · simp only [laws_szStringS.l0]; rw [if_neg (by omega)]
    · rw [List.drop_eq_nil_of_le (by omega)]; simp
  | succ d ih =>
    intro i a hi h0 h1
    have hil : i < l.length := by omega
    have hsz := hs l[i] (List.getElem_mem _)
    have w : wrap64 (a - (l[i].size : Int)) = a - l[i].size := wr (by omega) (by omega)
    by_cases h : a - (l[i].size : Int) < 0
    · refine ⟨-1, Ev.step (f := fun _ => some (-1)) (fun k => ?_) (Ev.now _), .inl rfl⟩
      simp only [laws_szStringS.l0, rdS hil, w]
      rw [if_pos (by omega), if_pos (by omega), if_pos h]
    · obtain ⟨r, e, hr⟩ := ih (i + 1) (a - l[i].size) (by omega) (by omega) (by omega)
      refine ⟨r, Ev.step (fun k => ?_) e, ?_⟩
      · simp only [laws_szStringS.l0, rdS hil, w]
        rw [if_pos (by omega), if_pos (by omega), if_neg h, wr (n := (i : Int) + 1) (by omega) (by omega)]; rfl
      · rcases hr with hr | ⟨h2, h3, h4⟩
        · exact .inl hr
        · refine .inr ⟨h2, by omega, fun x hx => ?_⟩
          rw [List.drop_eq_getElem_cons hil] at hx
          rcases List.mem_cons.1 hx with rfl | hx
          · omega
          · have := h4 x hx; omega
theorem szString_ev (l : List ByteArray) (a : Int) (hl : (l.length : Int) ≤ 140737488351232) (hs : ∀ x ∈ l, x.size ≤ 140737488351232) (h0 : 0 ≤ a) (h1 : a ≤ 1048576) :
    ∃ r, Ev (fun k => laws_szStringS.f k l a) r ∧ (r = -1 ∨ (0 ≤ r ∧ r ≤ a ∧ (l.length : Int) ≤ a ∧ ∀ x ∈ l, (x.size : Int) ≤ a)) := by
  unfold laws_szStringS.f
  have w : wrap64 (a - (l.length : Int)) = a - l.length := wr (by omega) (by omega)
  rw [w]
  by_cases h : a - (l.length : Int) < 0
  · simp only [if_pos h]; exact ⟨-1, Ev.now _, .inl rfl⟩
  · simp only [if_neg h]
    obtain ⟨r, e, hr⟩ := szString_loop l hl hs l.length 0 (a - l.length) (by omega) (by omega) (by omega)
    refine ⟨r, e, ?_⟩
    rcases hr with hr | ⟨h2, h3, h4⟩
    · exact .inl hr
    · exact .inr ⟨h2, by omega, by omega, fun x hx => by have := h4 x (by simpa using hx); omega⟩
theorem toStringS_loop (l : List ByteArray) (hl : (l.length : Int) ≤ 140737488351232) (d : Nat) : ∀ (out rest : List ByteArray) (i : Nat), out.length = i → rest.length = d → i + d = l.length →
    Ev (fun k => laws_toStringS.l0 k l (out ++ rest) (i : Int)) (out ++ l.drop i) := by
  induction d with
  | zero =>
    intro out rest i ho hr hi
    refine Ev.step (f := fun _ => some (out ++ l.drop i)) (fun k => ?_) (Ev.now _)
    simp only [laws_toStringS.l0]
    rw [if_neg (by omega), List.drop_eq_nil_of_le (by omega), List.length_eq_zero_iff.1 hr]
  | succ d ih =>
    intro out rest i ho hr hi
    have hil : i < l.length := by omega
    obtain ⟨y, rest, rfl⟩ : ∃ y r, rest = y :: r := by cases rest with | nil => simp at hr | cons y r => exact ⟨y, r, rfl⟩
    refine Ev.step (fun k => ?_) (ev_id (ih (out ++ [l[i]]) rest (i + 1) (by simp; omega) (by simpa using hr) (by omega)) ?_)
    · simp only [laws_toStringS.l0]
      rw [if_pos (by omega), if_pos (by omega), if_pos (by simp; omega), rdS hil, wr (n := (i : Int) + 1) (by omega) (by omega)]
      have : (out ++ y :: rest).set (i : Int).toNat l[i] = out ++ [l[i]] ++ rest := by
        rw [Int.toNat_natCast, List.set_append_right _ _ (by omega), ho]; simp
      rw [this]; rfl
    · rw [List.drop_eq_getElem_cons hil]; simp only [List.append_assoc, List.cons_append, List.nil_append]
theorem toStringS_ev (l : List ByteArray) (hl : (l.length : Int) ≤ 8796093022208) : Ev (fun k => laws_toStringS.f k l) l := by
  unfold laws_toStringS.f
  have h0 : (0 : Int) ≤ (l.length : Int) := by omega
  have h1 : ((l.length : Int) : Int).toNat ≤ 17592186044416 := by omega
  simp only [if_pos h0, if_pos h1]
  have := toStringS_loop l (by omega) l.length [] (List.replicate l.length (⟨#[]⟩ : ByteArray)) 0 rfl (by simp) (by omega)
  simpa using this
theorem markText_loop (n : Nat) : ∀ (x : Int) (s : ByteArray), 0 ≤ x → x ≤ 9223372036854775807 → x < 10 ^ n → s.size + n ≤ 9000000000000000000 → ∃ t, Ev (fun k => laws_markText.l0 k x s) t := by
  induction n with
  | zero =>
    intro x s h0 hx63 h1 hs
    have hx : x = 0 := by simp at h1; omega
    refine ⟨(⟨#[109]⟩ : ByteArray) ++ s, Ev.step (f := fun _ => some ((⟨#[109]⟩ : ByteArray) ++ s)) (fun k => ?_) (Ev.now _)⟩
    simp only [laws_markText.l0]; rw [if_neg (by omega), if_pos (by omega)]
  | succ n ih =>
    intro x s h0 hx63 h1 hs
    by_cases hx : x > 0
    · have e : Int.tdiv x 10 = x / 10 := Int.tdiv_eq_ediv_of_nonneg h0
      have hsz : ∀ c : Int, (strOfNums [c]).size = 1 := fun c => rfl
      have hp : x / 10 < 10 ^ n := by
        have : x < 10 ^ n * 10 := by rw [Int.pow_succ] at h1; exact h1
        omega
      obtain ⟨t, ht⟩ := ih (wrap64 (Int.tdiv x 10)) (strOfNums [(wrap64 (48 + (Int.tmod x 10))) % 256] ++ s) (by rw [e, wr (by omega) (by omega)]; omega) (by rw [e, wr (by omega) (by omega)]; omega) (by rw [e, wr (by omega) (by omega)]; exact hp) (by rw [ByteArray.size_append, hsz]; omega)
      refine ⟨t, Ev.step (fun k => ?_) ht⟩
      simp only [laws_markText.l0, Option.bind_some, hsz]
      rw [if_pos hx, if_pos (by omega)]
    · refine ⟨(⟨#[109]⟩ : ByteArray) ++ s, Ev.step (f := fun _ => some ((⟨#[109]⟩ : ByteArray) ++ s)) (fun k => ?_) (Ev.now _)⟩
      simp only [laws_markText.l0]; rw [if_neg hx, if_pos (by omega)]
theorem markText_fun : ∃ T : Int → ByteArray, ∀ k, k ≤ 9223372036854775807 → Ev (fun n => laws_markText.f n k) (T k) := by
  have h : ∀ k : Int, ∃ t, k ≤ 9223372036854775807 → Ev (fun n => laws_markText.f n k) t := by
    intro k
    by_cases h0 : k ≤ 0
    · exact ⟨(⟨#[109, 48]⟩ : ByteArray), fun _ => by unfold laws_markText.f; simp only [if_pos h0]; exact Ev.now _⟩
    · by_cases hk : k ≤ 9223372036854775807
      · obtain ⟨t, ht⟩ := markText_loop 19 k (⟨#[]⟩ : ByteArray) (by omega) (by omega) (by omega) (by decide)
        exact ⟨t, fun _ => by unfold laws_markText.f; simp only [if_neg h0]; exact ht⟩
      · exact ⟨ByteArray.empty, fun h => absurd h hk⟩
  exact ⟨fun k => Classical.choose (h k), fun k => Classical.choose_spec (h k)⟩
theorem markStringS_loop (T : Int → ByteArray) (hT : ∀ k, k ≤ 9223372036854775807 → Ev (fun n => laws_markText.f n k) (T k)) (b : Nat) (hb : b ≤ 1000000000) (d : Nat) : ∀ (a : List ByteArray) (i : Nat), i + d = a.length → (a.length : Int) ≤ 4611686018427387904 → (∀ j (h : j < a.length), j < i → a[j] = T (b + (j : Int))) →
    ∃ r : List ByteArray, Ev (fun k => laws_markStringS.l0 k a (b + (i : Int)) (i : Int)) (b + (a.length : Int), r) ∧ r.length = a.length ∧ ∀ j (h : j < r.length), r[j] = T (b + (j : Int)) := by
  induction d with
  | zero =>
    intro a i hi hn ha
    refine ⟨a, Ev.step (f := fun _ => some (b + (a.length : Int), a)) (fun k => ?_) (Ev.now _), rfl, fun j h => ha j h (by omega)⟩
    simp only [laws_markStringS.l0]
    rw [if_neg (by omega), show i = a.length by omega]
  | succ d ih =>
    intro a i hi hn ha
    obtain ⟨r, h1, h2, h3⟩ := ih (a.set i (T (b + (i : Int)))) (i + 1) (by simp; omega) (by simpa using hn) (by
      intro j h hj
      simp only [List.getElem_set]
      split
      · rename_i e; rw [e]
      · exact ha j (by simpa using h) (by omega))
    simp only [List.length_set] at h1 h2
    have hilt : (i : Int) < (a.length : Int) := by omega
    refine ⟨r, Ev.step (fun k => by simp only [laws_markStringS.l0]; rw [if_pos hilt]) (Ev.bind (hT _ (by omega)) ?_), h2, h3⟩
    have h0 : (0 : Int) ≤ (i : Int) := by omega
    have w1 : wrap64 ((b : Int) + (i : Int) + 1) = (b : Int) + ((i + 1 : Nat) : Int) := by rw [wr (by omega) (by omega)]; omega
    have w2 : wrap64 ((i : Int) + 1) = ((i + 1 : Nat) : Int) := by rw [wr (by omega) (by omega)]; omega
    simp only [if_pos h0, w1, w2, Int.toNat_natCast]
    exact h1
theorem markStringS_only (a : List ByteArray) (hn : (a.length : Int) ≤ 4611686018427387904) :
    ∃ r : List ByteArray, Ev (fun k => laws_markStringS.f k a 1) (1 + (a.length : Int), r) := by
  obtain ⟨T, hT⟩ := markText_fun
  obtain ⟨r, h1, h2, h3⟩ := markStringS_loop T hT 1 (by omega) a.length a 0 (by omega) hn (fun j h hj => by omega)
  exact ⟨r, h1⟩
theorem bt_lt {s : ByteArray} {i : Nat} (h : i < s.size) : bt s (i : Int) = (bytesOf s)[i]'(by unfold bytesOf; simpa using h) := by
  unfold bt bytesOf; simp [h]; rfl
theorem bytesOf_len (s : ByteArray) : (bytesOf s).length = s.size := by unfold bytesOf; simp
def stT (c : Int) : Int := if c = 107 then 1 else if c = 100 then 2 else if c = 105 then 1 else if c = 111 then 0 else if c = 98 then 1 else -1
def stM (c : Int) : Int := if c = 105 then 2 else if c = 98 then 0 else 1
def stY (c : Int) : Int := if c = 107 then 3 else if c = 100 then 4 else if c = 105 then 6 else if c = 111 then 4 else if c = 98 then 5 else 0
theorem stT_le (c : Int) : stT c ≤ 2 := by unfold stT; repeat' split <;> omega
theorem stM_le (c : Int) : 0 ≤ stM c ∧ stM c ≤ 2 := by unfold stM; repeat' split <;> omega
theorem stY_le (c : Int) : 0 ≤ stY c ∧ stY c ≤ 6 := by unfold stY; repeat' split <;> omega
theorem takes_ev (c : Int) : Ev (fun k => spec_l05Takes.f k c) (stT c) := by
  unfold spec_l05Takes.f stT
  by_cases h1 : c = 107
  · subst h1; simp only [if_true]; exact Ev.step (f := fun _ => some 1) (fun k => by simp [spec_l05Takes.j0]) (Ev.now _)
  · by_cases h3 : c = 105
    · subst h3; simp only [if_neg h1, if_true]; exact Ev.step (f := fun _ => some 1) (fun k => by simp [spec_l05Takes.j0]) (Ev.now _)
    · simp only [if_neg h1, if_neg h3]
      by_cases h5 : c = 98
      · subst h5; exact Ev.step (f := fun _ => some 1) (fun k => by simp [spec_l05Takes.j0]) (Ev.now _)
      · have hb : (c == 98) = false := by simpa using h5
        rw [hb]
        by_cases h2 : c = 100
        · subst h2; exact Ev.step (f := fun _ => some 2) (fun k => by simp [spec_l05Takes.j0]) (Ev.now _)
        · by_cases h4 : c = 111
          · subst h4; exact Ev.step (f := fun _ => some 0) (fun k => by simp [spec_l05Takes.j0]) (Ev.now _)
          · simp only [if_neg h2, if_neg h4, if_neg h5]
            exact Ev.step (f := fun _ => some (-1)) (fun k => by simp [spec_l05Takes.j0, h2, h4]) (Ev.now _)
theorem makes_f (c : Int) : spec_l05Makes.f c = some (stM c) := by
  unfold spec_l05Makes.f stM
  by_cases h1 : c = 105
  · rw [if_pos h1, if_pos h1]
  · rw [if_neg h1, if_neg h1]
    by_cases h2 : c = 98
    · rw [if_pos h2, if_pos h2]
    · rw [if_neg h2, if_neg h2]
theorem stitch_f (c : Int) : impl_stitchOf.f c = some (if 0 ≤ stT c then (stT c, stM c, stY c, true) else (0, 0, 0, false)) := by
  unfold impl_stitchOf.f stT stM stY
  by_cases h1 : c = 107
  · subst h1; simp
  · by_cases h2 : c = 100
    · subst h2; simp
    · by_cases h3 : c = 105
      · subst h3; simp
      · by_cases h4 : c = 111
        · subst h4; simp
        · by_cases h5 : c = 98
          · subst h5; simp
          · simp [h1, h2, h3, h4, h5]
/-- What the stitches of a row take, make and need together. -/
def rowS : List Int → Option (Int × Int × Int)
  | [] => some (0, 0, 0)
  | c :: l => if 0 ≤ stT c then (rowS l).map fun r => (stT c + r.1, stM c + r.2.1, stY c + r.2.2) else none
theorem rowS_bound : ∀ (l : List Int) (r : Int × Int × Int), rowS l = some r → (0 ≤ r.1 ∧ r.1 ≤ 2 * l.length) ∧ (0 ≤ r.2.1 ∧ r.2.1 ≤ 2 * l.length) ∧ (0 ≤ r.2.2 ∧ r.2.2 ≤ 6 * l.length)
  | [], r, h => by simp only [rowS, Option.some.injEq] at h; subst h; simp
  | c :: l, r, h => by
    simp only [rowS] at h
    split at h
    · obtain ⟨q, hq, rfl⟩ := Option.map_eq_some_iff.1 h
      have := rowS_bound l q hq
      have a := stT_le c
      have b := stM_le c
      have d := stY_le c
      simp only [List.length_cons]
      omega
    · cases h
theorem spec_row_loop (s : ByteArray) (hs : s.size ≤ 140737488351232) (d : Nat) : ∀ (i : Nat) (a b : Int), i + d = s.size → (0 ≤ a ∧ a ≤ 2 * i) → (0 ≤ b ∧ b ≤ 2 * i) →
    Ev (fun k => spec_l05Row.l0 k s a b (i : Int)) (match rowS ((bytesOf s).drop i) with | none => (0, 0, false) | some r => (a + r.1, b + r.2.1, true)) := by
  induction d with
  | zero =>
    intro i a b hi ha hb
    refine Ev.step (f := fun _ => some (a, b, true)) (fun k => ?_) (ev_id (Ev.now _) ?_)
    · simp only [spec_l05Row.l0]; rw [if_neg (by omega)]
    · rw [List.drop_eq_nil_of_le (by rw [bytesOf_len]; omega)]; simp [rowS]
  | succ d ih =>
    intro i a b hi ha hb
    have hil : i < s.size := by omega
    have hil' : i < (bytesOf s).length := by rw [bytesOf_len]; exact hil
    have hlt : (i : Int) < (s.size : Int) := by omega
    have h0 : (0 : Int) ≤ (i : Int) := by omega
    rw [List.drop_eq_getElem_cons hil']
    refine Ev.step (fun k => by simp only [spec_l05Row.l0, bt_lt hil]; rw [if_pos hlt, if_pos h0]) (Ev.bind (takes_ev _) ?_)
    generalize (bytesOf s)[i] = c
    have tl := stT_le c
    have ml := stM_le c
    by_cases hc : 0 ≤ stT c
    · simp only [if_neg (show ¬ (stT c < 0) by omega), makes_f, Option.bind_some, rowS, if_pos hc]
      rw [wr (n := a + stT c) (by omega) (by omega), wr (n := b + stM c) (by omega) (by omega), wr (n := (i : Int) + 1) (by omega) (by omega)]
      refine ev_id (ih (i + 1) (a + stT c) (b + stM c) (by omega) (by omega) (by omega)) ?_
      cases rowS ((bytesOf s).drop (i + 1)) with
      | none => rfl
      | some r => simp only [Option.map_some, Int.add_assoc]
    · simp only [if_pos (show stT c < 0 by omega), rowS, if_neg hc]; exact Ev.now _
theorem spec_row_ev (s : ByteArray) (hs : s.size ≤ 140737488351232) : Ev (fun k => spec_l05Row.f k s) (match rowS (bytesOf s) with | none => (0, 0, false) | some r => (r.1, r.2.1, true)) := by
  unfold spec_l05Row.f
  have := spec_row_loop s hs s.size 0 0 0 (by omega) (by omega) (by omega)
  simpa using this
theorem impl_row_loop (s : ByteArray) (hs : s.size ≤ 140737488351232) (d : Nat) : ∀ (i : Nat) (a b y : Int), i + d = s.size → (0 ≤ a ∧ a ≤ 2 * i) → (0 ≤ b ∧ b ≤ 2 * i) → (0 ≤ y ∧ y ≤ 6 * i) →
    Ev (fun k => impl_rowOf.l0 k s (s.size : Int) (i : Int) a b y) (match rowS ((bytesOf s).drop i) with | none => (0, 0, 0, false) | some r => (a + r.1, b + r.2.1, y + r.2.2, true)) := by
  induction d with
  | zero =>
    intro i a b y hi ha hb hy
    refine Ev.step (f := fun _ => some (a, b, y, true)) (fun k => ?_) (ev_id (Ev.now _) ?_)
    · simp only [impl_rowOf.l0]; rw [if_neg (by omega)]
    · rw [List.drop_eq_nil_of_le (by rw [bytesOf_len]; omega)]; simp [rowS]
  | succ d ih =>
    intro i a b y hi ha hb hy
    have hil : i < s.size := by omega
    have hil' : i < (bytesOf s).length := by rw [bytesOf_len]; exact hil
    have hlt : (i : Int) < (s.size : Int) := by omega
    have h0 : (0 : Int) ≤ (i : Int) := by omega
    rw [List.drop_eq_getElem_cons hil']
    refine Ev.step (fun k => by simp only [impl_rowOf.l0, bt_lt hil, stitch_f, Option.bind_some]; rw [if_pos hlt, if_pos h0, if_pos hlt]) ?_
    generalize (bytesOf s)[i] = c
    have tl := stT_le c
    have ml := stM_le c
    have yl := stY_le c
    by_cases hc : 0 ≤ stT c
    · simp only [if_pos hc, if_true, rowS]
      rw [wr (n := a + stT c) (by omega) (by omega), wr (n := b + stM c) (by omega) (by omega), wr (n := y + stY c) (by omega) (by omega), wr (n := (i : Int) + 1) (by omega) (by omega)]
      refine ev_id (ih (i + 1) (a + stT c) (b + stM c) (y + stY c) (by omega) (by omega) (by omega) (by omega)) ?_
      cases rowS ((bytesOf s).drop (i + 1)) with
      | none => rfl
      | some r => simp only [Option.map_some, Int.add_assoc]
    · simp only [if_neg hc, rowS, Bool.false_eq_true, if_false]; exact Ev.now _
theorem impl_row_ev (s : ByteArray) (hs : s.size ≤ 140737488351232) : Ev (fun k => impl_rowOf.f k s) (match rowS (bytesOf s) with | none => (0, 0, 0, false) | some r => (r.1, r.2.1, r.2.2, true)) := by
  unfold impl_rowOf.f
  have := impl_row_loop s hs s.size 0 0 0 0 (by omega) (by omega) (by omega) (by omega)
  simpa using this
/-- The index, counted from i on, of the first row with which a fabric is not valid, or -1. -/
def bad : Int → List ByteArray → Int → Int
  | _, [], _ => -1
  | w, s :: l, i => match rowS (bytesOf s) with
    | none => i
    | some r => if w = 0 ∨ r.1 ≠ w ∨ r.2.1 > 60 ∨ i ≥ 30 then i else bad r.2.1 l (i + 1)
theorem bad_ge : ∀ (l : List ByteArray) (w i : Int), 0 ≤ i → bad w l i = -1 ∨ 0 ≤ bad w l i
  | [], w, i, h => .inl rfl
  | s :: l, w, i, h => by
    simp only [bad]
    split
    · exact .inr h
    · split
      · exact .inr h
      · exact bad_ge l _ (i + 1) (by omega)
theorem spec_bad_loop (l : List ByteArray) (hl : (l.length : Int) ≤ 140737488351232) (hs : ∀ x ∈ l, x.size ≤ 140737488351232) (d : Nat) : ∀ (i : Nat) (w : Int), i + d = l.length →
    Ev (fun k => spec_l05Bad.l0 k l w (i : Int)) (bad w (l.drop i) i) := by
  induction d with
  | zero =>
    intro i w hi
    refine Ev.step (f := fun _ => some (-1)) (fun k => ?_) (ev_id (Ev.now _) ?_)
    · simp only [spec_l05Bad.l0]; rw [if_neg (by omega)]
    · rw [List.drop_eq_nil_of_le (by omega)]; rfl
  | succ d ih =>
    intro i w hi
    have hil : i < l.length := by omega
    have hlt : (i : Int) < (l.length : Int) := by omega
    have h0 : (0 : Int) ≤ (i : Int) := by omega
    refine Ev.step (fun k => by simp only [spec_l05Bad.l0, rdS hil]; rw [if_pos hlt, if_pos h0]) (Ev.bind (spec_row_ev _ (hs _ (List.getElem_mem _))) ?_)
    rw [List.drop_eq_getElem_cons hil]
    simp only [bad]
    have hi1 := ih (i + 1)
    cases rowS (bytesOf l[i]) with
    | none => simp only [Bool.false_eq_true, if_false]; exact Ev.now _
    | some r =>
      simp only [if_true]
      by_cases c1 : w = 0
      · simp only [c1, if_true, true_or]; exact Ev.now _
      · by_cases c2 : r.1 = w
        · by_cases c3 : r.2.1 > 60
          · simp only [if_neg c1, if_pos c2, if_pos c3, c3, true_or, or_true, if_true]; exact Ev.now _
          · by_cases c4 : (i : Int) ≥ 30
            · simp only [if_neg c1, if_pos c2, if_neg c3, if_pos c4, c4, or_true, if_true]; exact Ev.now _
            · have hn : ¬ (w = 0 ∨ r.1 ≠ w ∨ r.2.1 > 60 ∨ (i : Int) ≥ 30) := by omega
              simp only [if_neg c1, if_pos c2, if_neg c3, if_neg c4, if_neg hn]
              rw [wr (n := (i : Int) + 1) (by omega) (by omega)]
              exact hi1 r.2.1 (by omega)
        · have hp : (w = 0 ∨ r.1 ≠ w ∨ r.2.1 > 60 ∨ (i : Int) ≥ 30) := .inr (.inl c2)
          simp only [if_neg c1, if_neg c2, if_pos hp]; exact Ev.now _
theorem spec_bad_ev (l : List ByteArray) (w : Int) (hl : (l.length : Int) ≤ 140737488351232) (hs : ∀ x ∈ l, x.size ≤ 140737488351232) : Ev (fun k => spec_l05Bad.f k w l) (bad w l 0) := by
  unfold spec_l05Bad.f
  have := spec_bad_loop l hl hs l.length 0 w (by omega)
  simpa using this
theorem impl_bad_loop (l : List ByteArray) (hl : (l.length : Int) ≤ 140737488351232) (hs : ∀ x ∈ l, x.size ≤ 140737488351232) (d : Nat) : ∀ (i : Nat) (w : Int), i + d = l.length →
    Ev (fun k => impl_badRow.l0 k w l (l.length : Int) (i : Int)) (bad w (l.drop i) i) := by
  induction d with
  | zero =>
    intro i w hi
    refine Ev.step (f := fun _ => some (-1)) (fun k => ?_) (ev_id (Ev.now _) ?_)
    · simp only [impl_badRow.l0]; rw [if_neg (by omega)]
    · rw [List.drop_eq_nil_of_le (by omega)]; rfl
  | succ d ih =>
    intro i w hi
    have hil : i < l.length := by omega
    have hlt : (i : Int) < (l.length : Int) := by omega
    have h0 : (0 : Int) ≤ (i : Int) := by omega
    refine Ev.step (fun k => by simp only [impl_badRow.l0, rdS hil]; rw [if_pos hlt, if_pos h0, if_pos hlt]) (Ev.bind (impl_row_ev _ (hs _ (List.getElem_mem _))) ?_)
    rw [List.drop_eq_getElem_cons hil]
    simp only [bad]
    have hi1 := ih (i + 1)
    cases rowS (bytesOf l[i]) with
    | none => simp only [Bool.false_eq_true, if_false]; exact Ev.now _
    | some r =>
      simp only [if_true]
      by_cases c4 : (i : Int) ≥ 30
      · have hp : (w = 0 ∨ r.1 ≠ w ∨ r.2.1 > 60 ∨ (i : Int) ≥ 30) := .inr (.inr (.inr c4))
        simp only [if_pos c4, if_pos hp]; exact Ev.now _
      · by_cases c1 : w = 0
        · simp only [if_neg c4, c1, if_true, true_or]; exact Ev.now _
        · by_cases c2 : r.1 = w
          · by_cases c3 : r.2.1 > 60
            · simp only [if_neg c4, if_neg c1, if_pos c2, if_pos c3, c3, true_or, or_true, if_true]; exact Ev.now _
            · have hn : ¬ (w = 0 ∨ r.1 ≠ w ∨ r.2.1 > 60 ∨ (i : Int) ≥ 30) := by omega
              simp only [if_neg c1, if_pos c2, if_neg c3, if_neg c4, if_neg hn]
              rw [wr (n := (i : Int) + 1) (by omega) (by omega)]
              exact hi1 r.2.1 (by omega)
          · have hp : (w = 0 ∨ r.1 ≠ w ∨ r.2.1 > 60 ∨ (i : Int) ≥ 30) := .inr (.inl c2)
            simp only [if_neg c4, if_neg c1, if_neg c2, if_pos hp]; exact Ev.now _
theorem impl_bad_ev (l : List ByteArray) (w : Int) (hl : (l.length : Int) ≤ 140737488351232) (hs : ∀ x ∈ l, x.size ≤ 140737488351232) : Ev (fun k => impl_badRow.f k w l) (bad w l 0) := by
  unfold impl_badRow.f
  have := impl_bad_loop l hl hs l.length 0 w (by omega)
  simpa using this
theorem szFabric_ev (a : Int) (l : List ByteArray) (n : Int) (hl : (l.length : Int) ≤ 140737488351232) (hs : ∀ x ∈ l, x.size ≤ 140737488351232) (h0 : 0 ≤ n) (h1 : n ≤ 1048576) :
    ∃ r, Ev (fun k => laws_szFabric.f k a l n) r ∧ (r = -1 ∨ (0 ≤ r ∧ r ≤ n ∧ (l.length : Int) ≤ n ∧ ∀ x ∈ l, (x.size : Int) ≤ n)) := by
  obtain ⟨r, e, hr⟩ := szString_ev l n hl hs h0 h1
  unfold laws_szFabric.f
  rcases hr with rfl | h
  · exact ⟨-1, Ev.bind e (by simp only [show ((-1 : Int) < 0) from by omega, if_true]; exact Ev.now _), .inl rfl⟩
  · refine ⟨r, Ev.bind e ?_, .inr h⟩
    have : ¬ r < 0 := by omega
    simp only [if_neg this]; exact Ev.now _
theorem toFabric_ev (a : Int) (l : List ByteArray) (hl : (l.length : Int) ≤ 8796093022208) : Ev (fun k => laws_toFabric.f k a l) (a, l) := by
  unfold laws_toFabric.f
  exact Ev.bind (toStringS_ev l hl) (Ev.now _)
theorem eqFabric_self (a : Int) (l : List ByteArray) (hl : (l.length : Int) ≤ 4611686018427387904) : Ev (fun k => laws_eqFabric.f k a l a l) true := by
  unfold laws_eqFabric.f
  simp only [if_true]
  exact Ev.bind (eqStringS_self l hl) (by simp only [if_true]; exact Ev.now _)
/-- Is a fabric valid? -/
def okF (a : Int) (l : List ByteArray) : Bool := decide ((1 ≤ wrap64 a ∧ wrap64 a ≤ 60) ∧ bad (wrap64 a) l 0 < 0)
theorem spec_okF (a : Int) (l : List ByteArray) (hl : (l.length : Int) ≤ 140737488351232) (hs : ∀ x ∈ l, x.size ≤ 140737488351232) : Ev (fun k => spec_l05Ok.f k a l) (okF a l) := by
  unfold spec_l05Ok.f spec_l05Cast.f okF
  simp only [l00In_f, Option.bind_some, if_dec]
  by_cases h : 1 ≤ wrap64 a ∧ wrap64 a ≤ 60
  · simp only [if_pos h, h, true_and]
    exact Ev.bind (spec_bad_ev l _ hl hs) (by exact Ev.now _)
  · simp only [if_neg h, h, false_and, decide_false]; exact Ev.now _
theorem impl_okF (a : Int) (l : List ByteArray) (hl : (l.length : Int) ≤ 140737488351232) (hs : ∀ x ∈ l, x.size ≤ 140737488351232) : Ev (fun k => impl_ValidFabric.f k a l) (okF a l) := by
  unfold impl_ValidFabric.f impl_isLoops.f okF
  simp only [within_f, Option.bind_some, if_dec]
  by_cases h : 1 ≤ wrap64 a ∧ wrap64 a ≤ 60
  · simp only [if_pos h, h, true_and]
    exact Ev.bind (impl_bad_ev l _ hl hs) (by exact Ev.now _)
  · simp only [if_neg h, h, false_and, decide_false]; exact Ev.now _
theorem bad_neg : ∀ (l : List ByteArray) (w i : Int), 0 ≤ i → w ≤ 60 → bad w l i < 0 → (l = [] ∨ (l.length : Int) + i ≤ 30) ∧ ∀ s ∈ l, ∃ r, rowS (bytesOf s) = some r ∧ r.1 ≤ 60 ∧ r.2.1 ≤ 60
  | [], w, i, _, _, _ => ⟨.inl rfl, by simp⟩
  | s :: l, w, i, hi, hw, h => by
    simp only [bad] at h
    cases hr : rowS (bytesOf s) with
    | none => rw [hr] at h; simp only at h; omega
    | some r =>
      rw [hr] at h
      simp only at h
      by_cases hc : w = 0 ∨ r.1 ≠ w ∨ r.2.1 > 60 ∨ i ≥ 30
      · rw [if_pos hc] at h; omega
      · rw [if_neg hc] at h
        obtain ⟨h1, h2⟩ := bad_neg l r.2.1 (i + 1) (by omega) (by omega) h
        refine ⟨.inr ?_, fun x hx => ?_⟩
        · simp only [List.length_cons]
          rcases h1 with rfl | h1
          · simp; omega
          · omega
        · rcases List.mem_cons.1 hx with rfl | hx
          · exact ⟨r, hr, by omega, by omega⟩
          · exact h2 x hx
theorem okF_rows {a : Int} {l : List ByteArray} (h : okF a l = true) : (1 ≤ wrap64 a ∧ wrap64 a ≤ 60) ∧ l.length ≤ 30 ∧ ∀ s ∈ l, ∃ r, rowS (bytesOf s) = some r ∧ r.1 ≤ 60 ∧ r.2.1 ≤ 60 := by
  unfold okF at h
  obtain ⟨h1, h2⟩ := of_decide_eq_true h
  obtain ⟨h3, h4⟩ := bad_neg l _ 0 (by omega) (by omega) h2
  refine ⟨h1, ?_, h4⟩
  rcases h3 with rfl | h3
  · simp
  · omega
/-- What a row makes (0 if it is none). -/
def mkOf (s : ByteArray) : Int := match rowS (bytesOf s) with | none => 0 | some r => r.2.1
theorem spec_widths_loop (a : Int) (l : List ByteArray) (hl : (l.length : Int) ≤ 8796093022208) (hs : ∀ x ∈ l, x.size ≤ 140737488351232) (d : Nat) : ∀ (i : Nat) (out : List Int), i + d = l.length → (out.length : Int) ≤ i + 1 →
    Ev (fun k => spec_l05Widths.l0 k out (i : Int) a l) (out ++ (l.drop i).map mkOf) := by
  induction d with
  | zero =>
    intro i out hi ho
    refine Ev.step (f := fun _ => some out) (fun k => ?_) (ev_id (Ev.now _) ?_)
    · simp only [spec_l05Widths.l0]; rw [if_neg (by omega)]
    · rw [List.drop_eq_nil_of_le (by omega)]; simp
  | succ d ih =>
    intro i out hi ho
    have hil : i < l.length := by omega
    have hlt : (i : Int) < (l.length : Int) := by omega
    have h0 : (0 : Int) ≤ (i : Int) := by omega
    refine Ev.step (fun k => by simp only [spec_l05Widths.l0, rdS hil]; rw [if_pos hlt, if_pos h0]) (Ev.bind (spec_row_ev _ (hs _ (List.getElem_mem _))) ?_)
    have e : (match rowS (bytesOf l[i]) with | none => ((0 : Int), (0 : Int), false) | some r => (r.1, r.2.1, true)).2.1 = mkOf l[i] := by unfold mkOf; cases rowS (bytesOf l[i]) <;> rfl
    simp only [e]
    have ho2 : out.length < 17592186044416 := by omega
    simp only [if_pos ho2]
    rw [wr (n := (i : Int) + 1) (by omega) (by omega), List.drop_eq_getElem_cons hil]
    refine ev_id (ih (i + 1) (out ++ [mkOf l[i]]) (by omega) (by simp; omega)) ?_
    simp only [List.map_cons, List.append_assoc, List.cons_append, List.nil_append]
theorem spec_widths_ev (a : Int) (l : List ByteArray) (hl : (l.length : Int) ≤ 8796093022208) (hs : ∀ x ∈ l, x.size ≤ 140737488351232) : Ev (fun k => spec_l05Widths.f k a l) (wrap64 a :: l.map mkOf) := by
  unfold spec_l05Widths.f
  have := spec_widths_loop a l hl hs l.length 0 [wrap64 a] (by omega) (by simp)
  simpa using this
theorem impl_widths_loop (l : List ByteArray) (hl : (l.length : Int) ≤ 8796093022208) (hs : ∀ x ∈ l, x.size ≤ 140737488351232) (d : Nat) : ∀ (i : Nat) (out : List Int), i + d = l.length → (out.length : Int) ≤ i + 1 →
    Ev (fun k => impl_Fabric_widths.l0 k out l (l.length : Int) (i : Int)) (out ++ (l.drop i).map mkOf) := by
  induction d with
  | zero =>
    intro i out hi ho
    refine Ev.step (f := fun _ => some out) (fun k => ?_) (ev_id (Ev.now _) ?_)
    · simp only [impl_Fabric_widths.l0]; rw [if_neg (by omega)]
    · rw [List.drop_eq_nil_of_le (by omega)]; simp
  | succ d ih =>
    intro i out hi ho
    have hil : i < l.length := by omega
    have hlt : (i : Int) < (l.length : Int) := by omega
    have h0 : (0 : Int) ≤ (i : Int) := by omega
    refine Ev.step (fun k => by simp only [impl_Fabric_widths.l0, rdS hil]; rw [if_pos hlt, if_pos h0, if_pos hlt]) (Ev.bind (impl_row_ev _ (hs _ (List.getElem_mem _))) ?_)
    have e : (match rowS (bytesOf l[i]) with | none => ((0 : Int), (0 : Int), (0 : Int), false) | some r => (r.1, r.2.1, r.2.2, true)).2.1 = mkOf l[i] := by unfold mkOf; cases rowS (bytesOf l[i]) <;> rfl
    simp only [e]
    have ho2 : out.length < 17592186044416 := by omega
    simp only [if_pos ho2]
    rw [wr (n := (i : Int) + 1) (by omega) (by omega), List.drop_eq_getElem_cons hil]
    refine ev_id (ih (i + 1) (out ++ [mkOf l[i]]) (by omega) (by simp; omega)) ?_
    simp only [List.map_cons, List.append_assoc, List.cons_append, List.nil_append]
theorem impl_widths_ev (a : Int) (l : List ByteArray) (hl : (l.length : Int) ≤ 8796093022208) (hs : ∀ x ∈ l, x.size ≤ 140737488351232) : Ev (fun k => impl_Fabric_widths.f k a l) (wrap64 a :: l.map mkOf) := by
  unfold impl_Fabric_widths.f
  have := impl_widths_loop l hl hs l.length 0 [wrap64 a] (by omega) (by simp)
  simpa using this
theorem wf16 {a : Int} (h : (Lit.int .i16 a).wf = true) : -32768 ≤ a ∧ a ≤ 32767 := by
  simp only [Lit.wf, IntKind.min, IntKind.max, IntKind.signed, IntKind.bits, Bool.and_eq_true, decide_eq_true_eq, if_true] at h
  omega
/-- How many loops there are in each row. -/
def WL (a : Int) (l : List ByteArray) : List Int := wrap64 a :: l.map mkOf
theorem WL_len (a : Int) (l : List ByteArray) : (WL a l).length = l.length + 1 := by unfold WL; simp
/-- Has a fabric this loop? -/
def isL (a : Int) (l : List ByteArray) (r p : Int) : Bool := decide (0 ≤ r ∧ r ≤ l.length) && decide (0 ≤ p ∧ p ≤ wrap64 (rd (WL a l) r - 1))
def codeL (a : Int) (l : List ByteArray) (r p : Int) : Int := if okF a l = true then if isL a l r p = true then 0 else 2 else 1
theorem spec_code_ev (a : Int) (l : List ByteArray) (r p : Int) (hl : (l.length : Int) ≤ 1048576) (hs : ∀ x ∈ l, x.size ≤ 140737488351232) (hr : -32768 ≤ r ∧ r ≤ 32767) (hp : -32768 ≤ p ∧ p ≤ 32767) :
    Ev (fun k => spec_l05Loop.f k a l r p) (codeL a l r p) := by
  have s1 := spec_okF a l (by omega) hs
  have wd := spec_widths_ev a l (by omega) hs
  have e1 : wrap64 (((wrap64 a :: l.map mkOf).length : Int) - 1) = (l.length : Int) := by
    have z : ((wrap64 a :: l.map mkOf).length : Int) = l.length + 1 := by simp
    rw [z, wr (by omega) (by omega)]; omega
  have is_ : Ev (fun k => spec_l05Is.f k a l r p) (isL a l r p) := by
    unfold spec_l05Is.f isL
    refine Ev.bind wd ?_
    simp only [l00In_f, Option.bind_some, wr (n := r) (by omega) (by omega), wr (n := p) (by omega) (by omega), e1, if_dec]
    by_cases h : 0 ≤ r ∧ r ≤ (l.length : Int)
    · have hl2 : r < ((wrap64 a :: l.map mkOf).length : Int) := by simp; omega
      simp only [if_pos h, if_pos h.1, if_pos hl2, h, and_self, decide_true, Bool.true_and]; exact Ev.now _
    · simp only [if_neg h, decide_eq_false h, Bool.false_and]; exact Ev.now _
  unfold spec_l05Loop.f codeL
  refine Ev.bind s1 ?_
  cases okF a l with
  | false => simp only [Bool.false_eq_true, if_false]; exact Ev.now _
  | true =>
    simp only [if_true]
    refine Ev.bind is_ ?_
    cases isL a l r p <;> exact Ev.now _
theorem impl_code_ev (a : Int) (l : List ByteArray) (r p : Int) (hl : (l.length : Int) ≤ 1048576) (hs : ∀ x ∈ l, x.size ≤ 140737488351232) (hr : -32768 ≤ r ∧ r ≤ 32767) (hp : -32768 ≤ p ∧ p ≤ 32767) :
    Ev (fun k => impl_loopCode.f k a l r p) (codeL a l r p) := by
  have s1 := impl_okF a l (by omega) hs
  have wd := impl_widths_ev a l (by omega) hs
  have is_ : Ev (fun k => impl_Fabric_isLoop.f k a l r p) (isL a l r p) := by
    unfold impl_Fabric_isLoop.f isL impl_length_string.f
    simp only [within_f, Option.bind_some, wr (n := r) (by omega) (by omega), wr (n := p) (by omega) (by omega), if_dec]
    by_cases h : 0 ≤ r ∧ r ≤ (l.length : Int)
    · have hl2 : r < ((wrap64 a :: l.map mkOf).length : Int) := by simp; omega
      simp only [if_pos h, h, and_self, decide_true, Bool.true_and]
      refine Ev.bind wd ?_
      simp only [if_pos h.1, if_pos hl2]; exact Ev.now _
    · simp only [if_neg h, decide_eq_false h, Bool.false_and]; exact Ev.now _
  unfold impl_loopCode.f codeL
  refine Ev.bind s1 ?_
  cases okF a l with
  | false => simp only [Bool.false_eq_true, if_false]; exact Ev.now _
  | true =>
    simp only [if_true]
    refine Ev.bind is_ ?_
    cases isL a l r p <;> exact Ev.now _
theorem rows_take : ∀ (l : List ByteArray) (w i : Int), 0 ≤ i → bad w l i < 0 → ∀ j (h : j < l.length), ∃ r, rowS (bytesOf l[j]) = some r ∧ r.1 = rd (w :: l.map mkOf) j
  | [], w, i, hi, hb => fun j h => by simp at h
  | s :: l, w, i, hi, hb => fun j h => by
    simp only [bad] at hb
    cases hr : rowS (bytesOf s) with
    | none => rw [hr] at hb; simp only at hb; omega
    | some r =>
      rw [hr] at hb
      simp only at hb
      by_cases hc : w = 0 ∨ r.1 ≠ w ∨ r.2.1 > 60 ∨ i ≥ 30
      · rw [if_pos hc] at hb; omega
      · rw [if_neg hc] at hb
        match j with
        | 0 => exact ⟨r, hr, by simp [rd]; omega⟩
        | j + 1 =>
          obtain ⟨q, h1, h2⟩ := rows_take l r.2.1 (i + 1) (by omega) hb j (by simpa using h)
          refine ⟨q, h1, ?_⟩
          have e : mkOf s = r.2.1 := by unfold mkOf; rw [hr]
          rw [h2, List.map_cons, e]
          have : (((j + 1 : Nat) : Int)).toNat = j + 1 := by omega
          simp [rd, this]
theorem rowS_nonneg : ∀ (l : List Int) (r : Int × Int × Int), rowS l = some r → ∀ c ∈ l, 0 ≤ stT c
  | [], r, h => by simp
  | c :: l, r, h => by
    simp only [rowS] at h
    split at h
    · rename_i hc
      obtain ⟨q, hq, rfl⟩ := Option.map_eq_some_iff.1 h
      intro x hx
      rcases List.mem_cons.1 hx with rfl | hx
      · exact hc
      · exact rowS_nonneg l q hq x hx
    · cases h
theorem rowS_sum : ∀ (l : List Int) (r : Int × Int × Int), rowS l = some r → r.1 = (l.map stT).sum
  | [], r, h => by simp only [rowS, Option.some.injEq] at h; subst h; simp
  | c :: l, r, h => by
    simp only [rowS] at h
    split at h
    · obtain ⟨q, hq, rfl⟩ := Option.map_eq_some_iff.1 h
      simp only [List.map_cons, List.sum_cons, rowS_sum l q hq]
    · cases h
/-- The stitches of a row, with the places of what they take and make. -/
def stL : List Int → Int → Int → List S141
  | [], _, _ => []
  | c :: l, t, m => ⟨⟨stT c, stM c, stY c⟩, t, m⟩ :: stL l (t + stT c) (m + stM c)
theorem impl_stitches_loop (s : ByteArray) (hs : s.size ≤ 1048576) (hv : ∀ c ∈ bytesOf s, 0 ≤ stT c) (d : Nat) : ∀ (i : Nat) (out : List S141) (a b : Int), i + d = s.size → out.length ≤ i → (0 ≤ a ∧ a ≤ 2 * i) → (0 ≤ b ∧ b ≤ 2 * i) →
    Ev (fun k => impl_stitches.l0 k s out a b (s.size : Int) (i : Int)) (out ++ stL ((bytesOf s).drop i) a b) := by
  induction d with
  | zero =>
    intro i out a b hi ho ha hb
    refine Ev.step (f := fun _ => some out) (fun k => ?_) (ev_id (Ev.now _) ?_)
    · simp only [impl_stitches.l0]; rw [if_neg (by omega)]
    · rw [List.drop_eq_nil_of_le (by rw [bytesOf_len]; omega)]; simp [stL]
  | succ d ih =>
    intro i out a b hi ho ha hb
    have hil : i < s.size := by omega
    have hil' : i < (bytesOf s).length := by rw [bytesOf_len]; exact hil
    have hlt : (i : Int) < (s.size : Int) := by omega
    have h0 : (0 : Int) ≤ (i : Int) := by omega
    have hc := hv (bytesOf s)[i] (List.getElem_mem _)
    have tl := stT_le (bytesOf s)[i]
    have ml := stM_le (bytesOf s)[i]
    have := ih (i + 1) (out ++ [⟨⟨stT (bytesOf s)[i], stM (bytesOf s)[i], stY (bytesOf s)[i]⟩, a, b⟩]) (a + stT (bytesOf s)[i]) (b + stM (bytesOf s)[i]) (by omega) (by simp; omega) (by omega) (by omega)
    refine Ev.step (fun k => ?_) (ev_id this ?_)
    · simp only [impl_stitches.l0, bt_lt hil, stitch_f, Option.bind_some, if_pos hc]
      rw [if_pos hlt, if_pos h0, if_pos hlt, if_pos (by omega), wr (n := a + stT (bytesOf s)[i]) (by omega) (by omega), wr (n := b + stM (bytesOf s)[i]) (by omega) (by omega), wr (n := (i : Int) + 1) (by omega) (by omega)]; rfl
    · rw [List.drop_eq_getElem_cons hil', stL]; simp
theorem impl_stitches_ev (s : ByteArray) (hs : s.size ≤ 1048576) (hv : ∀ c ∈ bytesOf s, 0 ≤ stT c) : Ev (fun k => impl_stitches.f k s) (stL (bytesOf s) 0 0) := by
  unfold impl_stitches.f
  have := impl_stitches_loop s hs hv s.size 0 [] 0 0 (by omega) (by simp) (by omega) (by omega)
  simpa using this
theorem stL_len : ∀ (l : List Int) (t m : Int), (stL l t m).length = l.length
  | [], _, _ => rfl
  | c :: l, t, m => by simp [stL, stL_len l]
theorem ev_fn {α : Type} {g g' : Nat → Option α} {r : α} (h : Ev g r) (e : ∀ k, g k = g' k) : Ev g' r := (funext e : g = g') ▸ h
theorem wrap16 {n : Int} (h0 : -32768 ≤ n) (h1 : n ≤ 32767) : IntKind.i16.wrap n = n := by
  simp only [IntKind.wrap, IntKind.bits, IntKind.signed]; simp; omega
theorem rowS_sumM : ∀ (l : List Int) (r : Int × Int × Int), rowS l = some r → r.2.1 = (l.map stM).sum
  | [], r, h => by simp only [rowS, Option.some.injEq] at h; subst h; simp
  | c :: l, r, h => by
    simp only [rowS] at h
    split at h
    · obtain ⟨q, hq, rfl⟩ := Option.map_eq_some_iff.1 h
      simp only [List.map_cons, List.sum_cons, rowS_sumM l q hq]
    · cases h
/-- So many places from one on. -/
def plc (t n : Int) : List Int := (List.range n.toNat).map fun (j : Nat) => t + (j : Int)
theorem plc_len (t n : Int) : (plc t n).length = n.toNat := by unfold plc; simp
/-- The places of the loops from which loop p was made. -/
def fromS : List Int → Int → Int → Int → List Int
  | [], _, _, _ => []
  | c :: l, t, m, p => (if m ≤ p ∧ p ≤ m + stM c - 1 then plc t (stT c) else []) ++ fromS l (t + stT c) (m + stM c) p
theorem fromS_nil : ∀ (l : List Int) (t m p : Int), p < m → fromS l t m p = []
  | [], _, _, _, _ => rfl
  | c :: l, t, m, p, h => by
    have ml := stM_le c
    simp only [fromS]
    rw [if_neg (by omega), fromS_nil l _ _ p (by omega)]; rfl
theorem spec_from_inner (s : ByteArray) (r p T t m i mk : Int) (R : List Int × Int) (hT : 0 ≤ T ∧ T ≤ 2) (ht : 0 ≤ t ∧ t ≤ 4000000) (d : Nat) : ∀ (j : Nat) (out : List Int), (j : Int) + d = T → out.length ≤ 4000000 + j →
    Ev (fun k => spec_FromOf.l0 k (out ++ ((List.range T.toNat).drop j).map fun (j : Nat) => t + (j : Int)) s (wrap64 (t + T)) (wrap64 (m + mk)) (wrap64 (i + 1)) r p) R →
    Ev (fun k => spec_FromOf.l1 k out s t m i T mk (j : Int) r p) R := by
  induction d with
  | zero =>
    intro j out hj ho h
    rw [List.drop_eq_nil_of_le (by simp; omega)] at h
    have h' : Ev (fun k => spec_FromOf.l0 k out s (wrap64 (t + T)) (wrap64 (m + mk)) (wrap64 (i + 1)) r p) R := ev_fn h (fun k => by simp)
    refine Ev.step (fun k => ?_) h'
    simp only [spec_FromOf.l1]; rw [if_neg (by omega)]
  | succ d ih =>
    intro j out hj ho h
    have e : (List.range T.toNat).drop j = j :: (List.range T.toNat).drop (j + 1) := by
      rw [List.drop_eq_getElem_cons (by simp; omega)]; simp
    rw [e] at h
    refine Ev.step (fun k => ?_) (ih (j + 1) (out ++ [t + (j : Int)]) (by omega) (by simp; omega) (ev_fn h ?_))
    · simp only [spec_FromOf.l1]; rw [if_pos (by omega), if_pos (by omega), wr (n := t + (j : Int)) (by omega) (by omega), wr (n := (j : Int) + 1) (by omega) (by omega)]; rfl
    · intro k; simp
theorem step_le2 {t x : Int} {i : Nat} (a : 0 ≤ t) (b : t ≤ 2 * i) (c : 0 ≤ x) (d : x ≤ 2) : 0 ≤ t + x ∧ t + x ≤ 2 * ((i + 1 : Nat) : Int) := by omega
theorem rd_WL (a : Int) (l : List ByteArray) (j : Nat) (hj : j < l.length) : rd (WL a l) ((j : Int) + 1) = mkOf l[j] := by
  have e : ((j : Int) + 1).toNat = j + 1 := by omega
  unfold rd WL
  rw [e, List.getD_cons_succ]
  simp [List.getD, hj]
theorem wr_st {t x : Int} {i : Nat} (a : 0 ≤ t) (b : t ≤ 2 * i) (hi : i < 1048576) (c : 0 ≤ x) (d : x ≤ 2) : wrap64 (t + x) = t + x ∧ wrap64 (t + x - 1) = t + x - 1 ∧ t ≤ 4000000 := ⟨wr (by omega) (by omega), wr (by omega) (by omega), by omega⟩
theorem toNat_le2 {x : Int} (a : 0 ≤ x) (b : x ≤ 2) : x.toNat ≤ 2 ∧ ((0 : Nat) : Int) + (x.toNat : Int) = x := by omega
theorem len_le2 {a b i : Nat} (h : a ≤ 2 * i) (k : b ≤ 2) : a + b ≤ 2 * (i + 1) := by omega
theorem len_le3 {a i : Nat} (h : a ≤ 2 * i) : a ≤ 2 * (i + 1) := by omega
theorem len_le4 {a i : Nat} (h : a ≤ 2 * i) (hi : i < 1048576) : a ≤ 4000000 + 0 := by omega
theorem spec_from_loop (s : ByteArray) (hs : s.size ≤ 1048576) (hv : ∀ c ∈ bytesOf s, 0 ≤ stT c) (r p : Int) (hp : 0 ≤ p ∧ p ≤ 32767) (d : Nat) : ∀ (i : Nat) (out : List Int) (t m : Int), i + d = s.size → out.length ≤ 2 * i → (0 ≤ t ∧ t ≤ 2 * i) → (0 ≤ m ∧ m ≤ 2 * i) →
    Ev (fun k => spec_FromOf.l0 k out s t m (i : Int) r p) (out ++ fromS ((bytesOf s).drop i) t m p, 0) := by
  induction d with
  | zero =>
    intro i out t m hi ho ht hm
    refine Ev.step (f := fun _ => some (out, 0)) (fun k => ?_) (ev_id (Ev.now _) ?_)
    · simp only [spec_FromOf.l0]; rw [if_neg (by omega)]
    · rw [List.drop_eq_nil_of_le (by rw [bytesOf_len]; omega)]; simp [fromS]
  | succ d ih =>
    intro i out t m hi ho ht hm
    have hil : i < s.size := by omega
    have hil' : i < (bytesOf s).length := by rw [bytesOf_len]; exact hil
    have hlt : (i : Int) < (s.size : Int) := by omega
    have h0 : (0 : Int) ≤ (i : Int) := by omega
    have hc := hv (bytesOf s)[i] (List.getElem_mem _)
    have tl := stT_le (bytesOf s)[i]
    have ml := stM_le (bytesOf s)[i]
    have hb := bt_lt hil
    rw [List.drop_eq_getElem_cons hil']
    have ih1 := ih (i + 1)
    generalize (bytesOf s)[i] = c at hc tl ml hb
    have hi2 : i < 1048576 := Nat.lt_of_lt_of_le hil hs
    obtain ⟨w1, _, t4⟩ := wr_st ht.1 ht.2 hi2 hc tl
    obtain ⟨w2, w3, _⟩ := wr_st hm.1 hm.2 hi2 ml.1 ml.2
    have wp : wrap64 p = p := wr (by omega) (by omega)
    obtain ⟨z1, z2⟩ := toNat_le2 hc tl
    have ki : wrap64 ((i : Int) + 1) = ((i + 1 : Nat) : Int) := by rw [wr (by omega) (by omega)]; omega
    have n1 : i + 1 + d = s.size := by clear ih ih1 hb; omega
    have n2 := step_le2 ht.1 ht.2 hc tl
    have n3 := step_le2 hm.1 hm.2 ml.1 ml.2
    simp only [fromS]
    refine Ev.step (fun k => by simp only [spec_FromOf.l0, hb]; rw [if_pos hlt, if_pos h0]) (Ev.bind (takes_ev c) ?_)
    simp only [makes_f, l00In_f, Option.bind_some, w1, w2, w3, wp, ki, if_dec]
    by_cases h : m ≤ p ∧ p ≤ m + stM c - 1
    · simp only [if_pos h]
      have n4 : (out ++ plc t (stT c)).length ≤ 2 * (i + 1) := by rw [List.length_append, plc_len]; exact len_le2 ho z1
      have := ih1 (out ++ plc t (stT c)) (t + stT c) (m + stM c) n1 n4 n2 n3
      refine spec_from_inner s r p (stT c) t m (i : Int) (stM c) _ ⟨hc, tl⟩ ⟨ht.1, t4⟩ (stT c).toNat 0 out z2 (len_le4 ho hi2) ?_
      simp only [w1, w2, ki, List.drop_zero]
      refine ev_id this ?_
      simp only [List.append_assoc]
    · simp only [if_neg h]
      refine ev_id (ih1 out (t + stT c) (m + stM c) n1 (len_le3 ho) n2 n3) ?_
      simp
theorem make_idx (r p : Int) (hp : 0 ≤ p ∧ p ≤ 32767) : ∀ (l : List Int) (t m i : Int), (∀ c ∈ l, 0 ≤ stT c) → 0 ≤ m → m + 2 * (l.length : Int) ≤ 4000000 → m ≤ p → p < m + (l.map stM).sum →
    ∃ (n : Nat) (h : n < (stL l t m).length), idxO (fun x_ => impl_Fabric_maker_1.f x_.f0.f0 x_.f0.f1 x_.f0.f2 x_.f1 x_.f2 r p) (stL l t m) i = some (i + n) ∧ fromS l t m p = plc (stL l t m)[n].f1 (stL l t m)[n].f0.f0
  | [], t, m, i, _, _, _, h1, h2 => by simp at h2; omega
  | c :: l, t, m, i, hv, hm, hl, h1, h2 => by
    have ml := stM_le c
    simp only [List.map_cons, List.sum_cons, List.length_cons] at h2 hl
    have w2 : wrap64 (m + stM c) = m + stM c := wr (by omega) (by omega)
    have w3 : wrap64 (m + stM c - 1) = m + stM c - 1 := wr (by omega) (by omega)
    have wp : wrap64 p = p := wr (by omega) (by omega)
    by_cases h : p ≤ m + stM c - 1
    · refine ⟨0, by simp [stL], ?_, ?_⟩
      · simp only [stL, idxO, impl_Fabric_maker_1.f, within_f, Option.bind_some, w2, w3, wp, if_dec]
        rw [if_pos ⟨h1, h⟩]; simp
      · simp only [fromS, stL]
        rw [if_pos ⟨h1, h⟩, fromS_nil _ _ _ _ (by omega)]; simp
    · obtain ⟨n, hn, e1, e2⟩ := make_idx r p hp l (t + stT c) (m + stM c) (i + 1) (fun x hx => hv x (List.mem_cons_of_mem _ hx)) (by omega) (by omega) (by omega) (by omega)
      refine ⟨n + 1, by simp only [stL, List.length_cons]; omega, ?_, ?_⟩
      · simp only [stL, idxO]
        have q0 : impl_Fabric_maker_1.f (stT c) (stM c) (stY c) t m r p = some false := by
          simp only [impl_Fabric_maker_1.f, within_f, Option.bind_some, w2, w3, wp]
          rw [decide_eq_false (by omega)]
        rw [q0]
        simp only [Option.bind_some, Bool.false_eq_true, if_false]
        rw [e1]; simp; omega
      · simp only [fromS, stL]
        rw [if_neg (by omega), e2]; simp
theorem places_loop (a T : Int) (ha : 0 ≤ a ∧ a ≤ 4000000) (hT : 0 ≤ T ∧ T ≤ 2) (d : Nat) : ∀ (j : Nat) (out : List Int), (j : Int) + d = T → out.length = j →
    Ev (fun k => impl_places.l0 k a out T (j : Int)) (out ++ ((List.range T.toNat).drop j).map fun (j : Nat) => a + (j : Int)) := by
  induction d with
  | zero =>
    intro j out hj ho
    refine Ev.step (f := fun _ => some out) (fun k => ?_) (ev_id (Ev.now _) ?_)
    · simp only [impl_places.l0]; rw [if_neg (by omega)]
    · rw [List.drop_eq_nil_of_le (by simp; omega)]; simp
  | succ d ih =>
    intro j out hj ho
    have e : (List.range T.toNat).drop j = j :: (List.range T.toNat).drop (j + 1) := by
      rw [List.drop_eq_getElem_cons (by simp; omega)]; simp
    refine Ev.step (fun k => ?_) (ev_id (ih (j + 1) (out ++ [a + (j : Int)]) (by omega) (by simp; omega)) ?_)
    · simp only [impl_places.l0]; rw [if_pos (by omega), if_pos (by omega), wr (n := a + (j : Int)) (by omega) (by omega), wr (n := (j : Int) + 1) (by omega) (by omega)]; rfl
    · rw [e]; simp
theorem places_ev (a T : Int) (ha : 0 ≤ a ∧ a ≤ 4000000) (hT : 0 ≤ T ∧ T ≤ 2) : Ev (fun k => impl_places.f k a T) (plc a T) := by
  unfold impl_places.f plc
  have := places_loop a T ha hT T.toNat 0 [] (by omega) rfl
  simpa using this
theorem stL_mem : ∀ (l : List Int) (t m : Int), (∀ c ∈ l, 0 ≤ stT c) → 0 ≤ t → t + 2 * (l.length : Int) ≤ 4000000 → ∀ x ∈ stL l t m, (0 ≤ x.f1 ∧ x.f1 ≤ 4000000) ∧ (0 ≤ x.f0.f0 ∧ x.f0.f0 ≤ 2)
  | [], t, m, _, _, _, x, hx => by simp [stL] at hx
  | c :: l, t, m, hv, h0, hl, x, hx => by
    have hc := hv c (by simp)
    have tl := stT_le c
    simp only [List.length_cons] at hl
    simp only [stL, List.mem_cons] at hx
    rcases hx with rfl | hx
    · exact ⟨by simp only; omega, hc, tl⟩
    · exact stL_mem l _ _ (fun y hy => hv y (List.mem_cons_of_mem _ hy)) (by omega) (by omega) x hx
theorem FromOf_same (a : Int) (l : List ByteArray) (r p : Int) (hl : (l.length : Int) ≤ 1048576) (hs : ∀ x ∈ l, (x.size : Int) ≤ 1048576) (hr : -32768 ≤ r ∧ r ≤ 32767) (hp : -32768 ≤ p ∧ p ≤ 32767) :
    ∃ q : List Int × Int, Ev (fun k => spec_FromOf.f k a l r p) q ∧ Ev (fun k => impl_FromOf.f k a l r p) q ∧ (q.1.length : Int) ≤ 2 := by
  have hs' : ∀ x ∈ l, x.size ≤ 140737488351232 := fun x hx => by have := hs x hx; omega
  have c1 := spec_code_ev a l r p hl hs' hr hp
  have c2 := impl_code_ev a l r p hl hs' hr hp
  unfold spec_FromOf.f impl_FromOf.f
  simp only [Option.bind_some]
  by_cases hc : codeL a l r p = 0
  · rw [hc] at c1 c2
    unfold codeL at hc
    by_cases ho : okF a l = true
    · rw [if_pos ho] at hc
      by_cases hi : isL a l r p = true
      · unfold isL at hi
        rw [Bool.and_eq_true, decide_eq_true_eq, decide_eq_true_eq] at hi
        obtain ⟨⟨r0, r1⟩, p0, p1⟩ := hi
        by_cases he : r = 0
        · subst he
          refine ⟨([], 0), Ev.bind c1 ?_, Ev.bind c2 ?_, by simp⟩
          · simp only [if_true]; exact Ev.step (f := fun _ => some ([], 0)) (fun k => by simp [spec_FromOf.j0]) (Ev.now _)
          · simp only [if_true]; exact Ev.now _
        · have hj : r.toNat - 1 < l.length := by omega
          have w : IntKind.i16.wrap (r - 1) = r - 1 := wrap16 (by omega) (by omega)
          have hok := ho
          unfold okF at hok
          obtain ⟨hw, hb⟩ := of_decide_eq_true hok
          obtain ⟨q, q1, q2⟩ := rows_take l (wrap64 a) 0 (by omega) hb (r.toNat - 1) hj
          have hq := rowS_bound _ _ q1
          have hz := hs l[r.toNat - 1] (List.getElem_mem _)
          have hbl := bytesOf_len l[r.toNat - 1]
          have hv := rowS_nonneg _ _ q1
          have hsum := rowS_sumM _ _ q1
          have pw : p ≤ q.2.1 - 1 := by
            have e : rd (WL a l) r = q.2.1 := by
              have em : mkOf l[r.toNat - 1] = q.2.1 := by unfold mkOf; rw [q1]
              have z := rd_WL a l (r.toNat - 1) hj
              rw [show (((r.toNat - 1 : Nat) : Int) + 1) = r by omega] at z
              rw [z, em]
            rw [e, wr (by omega) (by omega)] at p1; exact p1
          have rr : rdOf ByteArray.empty l (r - 1) = l[r.toNat - 1] := by
            have e : (r - 1).toNat = r.toNat - 1 := by omega
            unfold rdOf; simp [List.getD, e, hj]
          have r2 : 0 ≤ r - 1 := by omega
          have r3 : r - 1 < (l.length : Int) := by omega
          have e1 := spec_from_loop l[r.toNat - 1] (by omega) hv r p (by omega) l[r.toNat - 1].size 0 [] 0 0 (by omega) (by simp) (by omega) (by omega)
          obtain ⟨n, hn, m1, m2⟩ := make_idx r p (by omega) (bytesOf l[r.toNat - 1]) 0 0 0 hv (by omega) (by rw [hbl]; omega) p0 (by omega)
          have hm := stL_mem (bytesOf l[r.toNat - 1]) 0 0 hv (by omega) (by rw [hbl]; omega) _ (List.getElem_mem hn)
          simp only [List.nil_append, List.drop_zero] at e1
          refine ⟨(fromS (bytesOf l[r.toNat - 1]) 0 0 p, 0), Ev.bind c1 ?_, Ev.bind c2 ?_, ?_⟩
          · simp only [if_true]
            have b0 : (r == 0) = false := by simpa using he
            refine Ev.step (fun k => ?_) e1
            simp only [spec_FromOf.j0, b0, Bool.false_eq_true, if_false, w, if_pos r2, if_pos r3, rr]
            rfl
          · simp only [if_true, if_neg he]
            have hg : idxG (stL (bytesOf l[r.toNat - 1]) 0 0) (fun x_ => impl_Fabric_maker_1.f x_.f0.f0 x_.f0.f1 x_.f0.f2 x_.f1 x_.f2 r p) = some (n : Int) := by
              unfold idxG; rw [if_pos (by rw [stL_len]; omega)]; simpa using m1
            have mk : Ev (fun k => impl_Fabric_maker.f k a l r p) ((stL (bytesOf l[r.toNat - 1]) 0 0)[n].f0.f0, (stL (bytesOf l[r.toNat - 1]) 0 0)[n].f0.f1, (stL (bytesOf l[r.toNat - 1]) 0 0)[n].f0.f2, (stL (bytesOf l[r.toNat - 1]) 0 0)[n].f1, (stL (bytesOf l[r.toNat - 1]) 0 0)[n].f2) := by
              unfold impl_Fabric_maker.f
              simp only [w, if_pos r2, if_pos r3, rr]
              refine Ev.bind (impl_stitches_ev l[r.toNat - 1] (by omega) hv) ?_
              show Ev (fun _ => (idxG _ _).bind _) _
              rw [hg]
              have g0 : (0 : Int) ≤ (n : Int) := by omega
              have g1 : (n : Int) < ((stL (bytesOf l[r.toNat - 1]) 0 0).length : Int) := by omega
              have g2 : rd_T141 (stL (bytesOf l[r.toNat - 1]) 0 0) (n : Int) = (stL (bytesOf l[r.toNat - 1]) 0 0)[n] := by unfold rd_T141; simp [List.getD, hn]
              simp only [Option.bind_some, if_pos g0, if_pos g1, g2]
              exact Ev.now _
            refine Ev.bind mk ?_
            rw [m2]
            exact Ev.bind (places_ev _ _ hm.1 hm.2) (Ev.now _)
          · rw [m2]; simp only [plc_len]; omega
      · rw [if_neg hi] at hc; omega
    · rw [if_neg ho] at hc; omega
  · refine ⟨([], codeL a l r p), Ev.bind c1 ?_, Ev.bind c2 (by simp only [if_neg hc]; exact Ev.now _), by simp⟩
    simp only [if_neg hc]
    exact Ev.step (f := fun _ => some ([], codeL a l r p)) (fun k => by simp [spec_FromOf.j0]) (Ev.now _)
theorem markFabric_ev (a : Int) (l : List ByteArray) (hn : (l.length : Int) ≤ 4611686018427387904) :
    ∃ r : List ByteArray, Ev (fun k => laws_markFabric.f k a l 1) (1 + (l.length : Int), r) := by
  obtain ⟨r, h⟩ := markStringS_only l hn
  exact ⟨r, by unfold laws_markFabric.f; exact Ev.bind h (Ev.now _)⟩
theorem FnExactFromOf : laws_FnExactFromOf.Pure := by
  intro a l r p _ ⟨hl, hs⟩ hr hp
  refine Ev.rounds ?_
  unfold laws_FnExactFromOf.f
  obtain ⟨z, e, hz⟩ := szFabric_ev a l 1048576 (by omega) hs (by omega) (by omega)
  refine Ev.bind e ?_
  rcases hz with rfl | ⟨h0, h1, h2, h3⟩
  · simp only [show ((-1 : Int) < 0) from by omega, if_true]; exact Ev.now _
  · have hneg : ¬ (z < 0) := by omega
    simp only [if_neg hneg]
    have ht := toFabric_ev a l (by omega)
    have tl : laws_toLoop.f r p = some (r, p) := rfl
    obtain ⟨⟨w, c⟩, f1, f2, fl⟩ := FromOf_same a l r p (by omega) (fun x hx => by have := h3 x hx; omega) (wf16 hr) (wf16 hp)
    have hw : (w.length : Int) ≤ 4611686018427387904 := by simp only at fl; omega
    obtain ⟨s, m1, m2⟩ := markInt64S_ev w hw
    obtain ⟨s', n1⟩ := markFabric_ev a l (by omega)
    have hneg1 : ¬ (1 + (l.length : Int) < 0) := by omega
    have hneg2 : ¬ (1 + (w.length : Int) < 0) := by omega
    refine Ev.bind ht ?_
    simp only [tl, Option.bind_some]
    refine Ev.bind f1 (Ev.bind ht (Ev.bind f2 (Ev.bind (eqInt64S_self w hw) ?_)))
    simp only [if_true, bne_self_eq_false]
    refine Ev.step (fun k => by simp only [laws_FnExactFromOf.j0, Bool.false_eq_true, if_false]; rfl) (Ev.bind ht (Ev.bind (eqFabric_self a l (by omega)) ?_))
    simp only [if_true]
    refine Ev.bind n1 ?_
    simp only [if_neg hneg1]
    refine Ev.bind (eqInt64S_self w hw) ?_
    simp only [if_true, bne_self_eq_false]
    refine Ev.step (fun k => by simp only [laws_FnExactFromOf.j1, Bool.false_eq_true, if_false]; rfl) (Ev.bind m1 (Ev.bind m2 ?_))
    simp only [if_neg hneg2, if_true]
    refine Ev.bind ht ?_
    simp only [tl, Option.bind_some]
    refine Ev.bind f2 (Ev.bind (eqInt64S_self w hw) ?_)
    simp only [if_true, bne_self_eq_false]
    refine Ev.step (fun k => by simp only [laws_FnExactFromOf.j2, Bool.false_eq_true, if_false]; rfl) (Ev.bind m2 ?_)
    simp only [if_neg hneg2, if_true]; exact Ev.now _
end Go.Proofs.Ytjhafhejdlmcmaa.Pure
