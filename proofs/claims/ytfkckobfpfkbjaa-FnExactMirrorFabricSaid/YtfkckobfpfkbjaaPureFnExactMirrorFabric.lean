/- The program's MirrorFabric and the reference's give the same answer at all fabrics; no conditions. -/
import Derived.Test.YtfkckobfpfkbjaaXFnExactMirrorFabricx5
namespace Go.Proofs.Ytfkckobfpfkbjaa.Pure
open Go.RowKit Go.Proofs.Ytfkckobfpfkbjaa.XFnExactMirrorFabric Go.Proofs.YtfkckobfpfkbjaaW.PrintWords Go.Proofs.YtfkckobfpfkbjaaW.PrintLast
set_option linter.unusedVariables false
set_option linter.unusedSimpArgs false
theorem wr {n : Int} (h0 : -9223372036854775808 ≤ n) (h1 : n ≤ 9223372036854775807) : wrap64 n = n := by
  unfold wrap64; omega
theorem wf64 {a : Int} (h : (Lit.int .i64 a).wf = true) : -9223372036854775808 ≤ a ∧ a ≤ 9223372036854775807 := by
  simp only [Lit.wf, IntKind.min, IntKind.max, IntKind.signed, IntKind.bits, Bool.and_eq_true, decide_eq_true_eq, if_true] at h
  omega
theorem ev_id {α : Type} {g : Nat → Option α} {r s : α} (h : Ev g r) (e : r = s) : Ev g s := e ▸ h
theorem ev_const {α : Type} {o : Option α} {r : α} (h : o = some r) : Ev (fun _ => o) r := ⟨0, fun _ _ => h⟩
theorem ev_fun {α : Type} {g : Nat → Option α} {r s : α} (h : Ev g r) (k : Ev g s) : r = s := by
  obtain ⟨a, h⟩ := h
  obtain ⟨b, k⟩ := k
  have x := h (max a b) (by omega)
  have y := k (max a b) (by omega)
  rw [x] at y; exact Option.some.inj y
/-- Both come to one answer. -/
def Same {α : Type} (g f : Nat → Option α) : Prop := ∃ r, Ev g r ∧ Ev f r
theorem Same.step {α : Type} {g f g' f' : Nat → Option α} (hg : ∀ k, g (k + 1) = g' k) (hf : ∀ k, f (k + 1) = f' k) (h : Same g' f') : Same g f := by
  obtain ⟨r, a, b⟩ := h
  exact ⟨r, Ev.step hg a, Ev.step hf b⟩
theorem Same.left {α : Type} {g f g' : Nat → Option α} (hg : ∀ k, g (k + 1) = g' k) (h : Same g' f) : Same g f := by
  obtain ⟨r, a, b⟩ := h
  exact ⟨r, Ev.step hg a, b⟩
theorem Same.right {α : Type} {g f f' : Nat → Option α} (hf : ∀ k, f (k + 1) = f' k) (h : Same g f') : Same g f := by
  obtain ⟨r, a, b⟩ := h
  exact ⟨r, a, Ev.step hf b⟩
theorem Same.now {α : Type} (r : α) : Same (fun _ => some r) (fun _ => some r) := ⟨r, Ev.now r, Ev.now r⟩
theorem if_dec {α : Type} {p : Prop} [Decidable p] (a b : α) : (if decide p = true then a else b) = if p then a else b := by
  by_cases h : p <;> simp [h]
theorem w00 : wrap64 0 = 0 := wr (by omega) (by omega)
theorem l00In_f (a b c : Int) : spec_l00In.f a b c = some (decide (b ≤ a ∧ a ≤ c)) := by
  unfold spec_l00In.f
  by_cases h : b ≤ a <;> simp [h]
theorem within_f (a b c : Int) : impl_within.f a b c = some (decide (b ≤ a ∧ a ≤ c)) := by
  unfold impl_within.f
  by_cases h : b ≤ a <;> simp [h]
theorem rdS {l : List ByteArray} {i : Nat} (h : i < l.length) : rdOf ByteArray.empty l (i : Int) = l[i] := by
  unfold rdOf; simp [List.getD, h]
theorem eqStringS_loop (a : List ByteArray) (hn : (a.length : Int) ≤ 4611686018427387904) (d : Nat) : ∀ (i : Nat), i + d = a.length →
    Ev (fun k => laws_eqStringS.l0 k a a (i : Int)) true := by
  induction d with
  | zero =>
    intro i hi
    refine Ev.step (f := fun _ => some true) (fun k => ?_) (Ev.now _)
    simp only [laws_eqStringS.l0]; rw [if_neg (by omega)]
  | succ d ih =>
    intro i hi
    refine Ev.step (fun k => ?_) (ih (i + 1) (by omega))
    simp only [laws_eqStringS.l0, if_true]
    rw [if_pos (by omega), if_pos (by omega), if_pos (by omega), wr (n := (i : Int) + 1) (by omega) (by omega)]; rfl
theorem eqStringS_self (a : List ByteArray) (hn : (a.length : Int) ≤ 4611686018427387904) : Ev (fun k => laws_eqStringS.f k a a) true := by
  unfold laws_eqStringS.f
  simp only [if_true]
  exact eqStringS_loop a hn a.length 0 (by omega)
theorem szString_loop (l : List ByteArray) (hl : (l.length : Int) ≤ 140737488351232) (hs : ∀ x ∈ l, x.size ≤ 140737488351232) (d : Nat) : ∀ (i : Nat) (a : Int), i + d = l.length → 0 ≤ a → a ≤ 1048576 →
    ∃ r, Ev (fun k => laws_szStringS.l0 k l a (i : Int)) r ∧ (r = -1 ∨ (0 ≤ r ∧ r ≤ a ∧ ∀ x ∈ l.drop i, (x.size : Int) ≤ a)) := by
  induction d with
  | zero =>
    intro i a hi h0 h1
    refine ⟨a, Ev.step (f := fun _ => some a) (fun k => ?_) (Ev.now _), .inr ⟨h0, Int.le_refl _, ?_⟩⟩
    · simp only [laws_szStringS.l0]; rw [if_neg (by omega)]
    · rw [List.drop_eq_nil_of_le (by omega)]; simp
  | succ d ih =>
    intro i a hi h0 h1
    have hil : i < l.length := by omega
    have hsz := hs l[i] (List.getElem_mem _)
    have w : wrap64 (a - (l[i].size : Int)) = a - l[i].size := wr (by omega) (by omega)
    by_cases h : a - (l[i].size : Int) < 0
    · refine ⟨-1, Ev.step (f := fun _ => some (-1)) (fun k => ?_) (Ev.now _), .inl rfl⟩
      simp only [laws_szStringS.l0, rdS hil, w]
      rw [if_pos (by omega), if_pos (by omega), if_pos h]
    · obtain ⟨r, e, hr⟩ := ih (i + 1) (a - l[i].size) (by omega) (by omega) (by omega)
      refine ⟨r, Ev.step (fun k => ?_) e, ?_⟩
      · simp only [laws_szStringS.l0, rdS hil, w]
        rw [if_pos (by omega), if_pos (by omega), if_neg h, wr (n := (i : Int) + 1) (by omega) (by omega)]; rfl
      · rcases hr with hr | ⟨h2, h3, h4⟩
        · exact .inl hr
        · refine .inr ⟨h2, by omega, fun x hx => ?_⟩
          rw [List.drop_eq_getElem_cons hil] at hx
          rcases List.mem_cons.1 hx with rfl | hx
          · omega
          · have := h4 x hx; omega
theorem szString_ev (l : List ByteArray) (a : Int) (hl : (l.length : Int) ≤ 140737488351232) (hs : ∀ x ∈ l, x.size ≤ 140737488351232) (h0 : 0 ≤ a) (h1 : a ≤ 1048576) :
    ∃ r, Ev (fun k => laws_szStringS.f k l a) r ∧ (r = -1 ∨ (0 ≤ r ∧ r ≤ a ∧ (l.length : Int) ≤ a ∧ ∀ x ∈ l, (x.size : Int) ≤ a)) := by
  unfold laws_szStringS.f
  have w : wrap64 (a - (l.length : Int)) = a - l.length := wr (by omega) (by omega)
  rw [w]
  by_cases h : a - (l.length : Int) < 0
  · simp only [if_pos h]; exact ⟨-1, Ev.now _, .inl rfl⟩
  · simp only [if_neg h]
    obtain ⟨r, e, hr⟩ := szString_loop l hl hs l.length 0 (a - l.length) (by omega) (by omega) (by omega)
    refine ⟨r, e, ?_⟩
    rcases hr with hr | ⟨h2, h3, h4⟩
    · exact .inl hr
    · exact .inr ⟨h2, by omega, by omega, fun x hx => by have := h4 x (by simpa using hx); omega⟩
theorem toStringS_loop (l : List ByteArray) (hl : (l.length : Int) ≤ 140737488351232) (d : Nat) : ∀ (out rest : List ByteArray) (i : Nat), out.length = i → rest.length = d → i + d = l.length →
    Ev (fun k => laws_toStringS.l0 k l (out ++ rest) (i : Int)) (out ++ l.drop i) := by
  induction d with
  | zero =>
    intro out rest i ho hr hi
    refine Ev.step (f := fun _ => some (out ++ l.drop i)) (fun k => ?_) (Ev.now _)
    simp only [laws_toStringS.l0]
    rw [if_neg (by omega), List.drop_eq_nil_of_le (by omega), List.length_eq_zero_iff.1 hr]
  | succ d ih =>
    intro out rest i ho hr hi
    have hil : i < l.length := by omega
    obtain ⟨y, rest, rfl⟩ : ∃ y r, rest = y :: r := by cases rest with | nil => simp at hr | cons y r => exact ⟨y, r, rfl⟩
    refine Ev.step (fun k => ?_) (ev_id (ih (out ++ [l[i]]) rest (i + 1) (by simp; omega) (by simpa using hr) (by omega)) ?_)
    · simp only [laws_toStringS.l0]
      rw [if_pos (by omega), if_pos (by omega), if_pos (by simp; omega), rdS hil, wr (n := (i : Int) + 1) (by omega) (by omega)]
      have : (out ++ y :: rest).set (i : Int).toNat l[i] = out ++ [l[i]] ++ rest := by
        rw [Int.toNat_natCast, List.set_append_right _ _ (by omega), ho]; simp
      rw [this]; rfl
    · rw [List.drop_eq_getElem_cons hil]; simp only [List.append_assoc, List.cons_append, List.nil_append]
theorem toStringS_ev (l : List ByteArray) (hl : (l.length : Int) ≤ 8796093022208) : Ev (fun k => laws_toStringS.f k l) l := by
  unfold laws_toStringS.f
  have h0 : (0 : Int) ≤ (l.length : Int) := by omega
  have h1 : ((l.length : Int) : Int).toNat ≤ 17592186044416 := by omega
  simp only [if_pos h0, if_pos h1]
  have := toStringS_loop l (by omega) l.length [] (List.replicate l.length (⟨#[]⟩ : ByteArray)) 0 rfl (by simp) (by omega)
  simpa using this
theorem markText_loop (n : Nat) : ∀ (x : Int) (s : ByteArray), 0 ≤ x → x ≤ 9223372036854775807 → x < 10 ^ n → s.size + n ≤ 9000000000000000000 → ∃ t, Ev (fun k => laws_markText.l0 k x s) t := by
  induction n with
  | zero =>
    intro x s h0 hx63 h1 hs
    have hx : x = 0 := by simp at h1; omega
    refine ⟨(⟨#[109]⟩ : ByteArray) ++ s, Ev.step (f := fun _ => some ((⟨#[109]⟩ : ByteArray) ++ s)) (fun k => ?_) (Ev.now _)⟩
    simp only [laws_markText.l0]; rw [if_neg (by omega), if_pos (by omega)]
  | succ n ih =>
    intro x s h0 hx63 h1 hs
    by_cases hx : x > 0
    · have e : Int.tdiv x 10 = x / 10 := Int.tdiv_eq_ediv_of_nonneg h0
      have hsz : ∀ c : Int, (strOfNums [c]).size = 1 := fun c => rfl
      have hp : x / 10 < 10 ^ n := by
        have : x < 10 ^ n * 10 := by rw [Int.pow_succ] at h1; exact h1
        omega
      obtain ⟨t, ht⟩ := ih (wrap64 (Int.tdiv x 10)) (strOfNums [(wrap64 (48 + (Int.tmod x 10))) % 256] ++ s) (by rw [e, wr (by omega) (by omega)]; omega) (by rw [e, wr (by omega) (by omega)]; omega) (by rw [e, wr (by omega) (by omega)]; exact hp) (by rw [ByteArray.size_append, hsz]; omega)
      refine ⟨t, Ev.step (fun k => ?_) ht⟩
      simp only [laws_markText.l0, Option.bind_some, hsz]
      rw [if_pos hx, if_pos (by omega)]
    · refine ⟨(⟨#[109]⟩ : ByteArray) ++ s, Ev.step (f := fun _ => some ((⟨#[109]⟩ : ByteArray) ++ s)) (fun k => ?_) (Ev.now _)⟩
      simp only [laws_markText.l0]; rw [if_neg hx, if_pos (by omega)]
theorem markText_fun : ∃ T : Int → ByteArray, ∀ k, k ≤ 9223372036854775807 → Ev (fun n => laws_markText.f n k) (T k) := by
  have h : ∀ k : Int, ∃ t, k ≤ 9223372036854775807 → Ev (fun n => laws_markText.f n k) t := by
    intro k
    by_cases h0 : k ≤ 0
    · exact ⟨(⟨#[109, 48]⟩ : ByteArray), fun _ => by unfold laws_markText.f; simp only [if_pos h0]; exact Ev.now _⟩
    · by_cases hk : k ≤ 9223372036854775807
      · obtain ⟨t, ht⟩ := markText_loop 19 k (⟨#[]⟩ : ByteArray) (by omega) (by omega) (by omega) (by decide)
        exact ⟨t, fun _ => by unfold laws_markText.f; simp only [if_neg h0]; exact ht⟩
      · exact ⟨ByteArray.empty, fun h => absurd h hk⟩
  exact ⟨fun k => Classical.choose (h k), fun k => Classical.choose_spec (h k)⟩
theorem markStringS_loop (T : Int → ByteArray) (hT : ∀ k, k ≤ 9223372036854775807 → Ev (fun n => laws_markText.f n k) (T k)) (b : Nat) (hb : b ≤ 1000000000) (d : Nat) : ∀ (a : List ByteArray) (i : Nat), i + d = a.length → (a.length : Int) ≤ 4611686018427387904 → (∀ j (h : j < a.length), j < i → a[j] = T (b + (j : Int))) →
    ∃ r : List ByteArray, Ev (fun k => laws_markStringS.l0 k a (b + (i : Int)) (i : Int)) (b + (a.length : Int), r) ∧ r.length = a.length ∧ ∀ j (h : j < r.length), r[j] = T (b + (j : Int)) := by
  induction d with
  | zero =>
    intro a i hi hn ha
    refine ⟨a, Ev.step (f := fun _ => some (b + (a.length : Int), a)) (fun k => ?_) (Ev.now _), rfl, fun j h => ha j h (by omega)⟩
    simp only [laws_markStringS.l0]
    rw [if_neg (by omega), show i = a.length by omega]
  | succ d ih =>
    intro a i hi hn ha
    obtain ⟨r, h1, h2, h3⟩ := ih (a.set i (T (b + (i : Int)))) (i + 1) (by simp; omega) (by simpa using hn) (by
      intro j h hj
      simp only [List.getElem_set]
      split
      · rename_i e; rw [e]
      · exact ha j (by simpa using h) (by omega))
    simp only [List.length_set] at h1 h2
    have hilt : (i : Int) < (a.length : Int) := by omega
    refine ⟨r, Ev.step (fun k => by simp only [laws_markStringS.l0]; rw [if_pos hilt]) (Ev.bind (hT _ (by omega)) ?_), h2, h3⟩
    have h0 : (0 : Int) ≤ (i : Int) := by omega
    have w1 : wrap64 ((b : Int) + (i : Int) + 1) = (b : Int) + ((i + 1 : Nat) : Int) := by rw [wr (by omega) (by omega)]; omega
    have w2 : wrap64 ((i : Int) + 1) = ((i + 1 : Nat) : Int) := by rw [wr (by omega) (by omega)]; omega
    simp only [if_pos h0, w1, w2, Int.toNat_natCast]
    exact h1
theorem markStringS_only (a : List ByteArray) (hn : (a.length : Int) ≤ 4611686018427387904) :
    ∃ r : List ByteArray, Ev (fun k => laws_markStringS.f k a 1) (1 + (a.length : Int), r) := by
  obtain ⟨T, hT⟩ := markText_fun
  obtain ⟨r, h1, h2, h3⟩ := markStringS_loop T hT 1 (by omega) a.length a 0 (by omega) hn (fun j h hj => by omega)
  exact ⟨r, h1⟩
theorem heldStringS_loop (T : Int → ByteArray) (hT : ∀ k, k ≤ 9223372036854775807 → Ev (fun n => laws_markText.f n k) (T k)) (b : Nat) (hb : b ≤ 1000000000) (a : List ByteArray) (hn : (a.length : Int) ≤ 4611686018427387904) (ha : ∀ j (h : j < a.length), a[j] = T (b + (j : Int))) (d : Nat) : ∀ (i : Nat), i + d = a.length →
    Ev (fun k => laws_heldStringS.l0 k a (b + (i : Int)) (i : Int)) (b + (a.length : Int)) := by
  induction d with
  | zero =>
    intro i hi
    refine Ev.step (f := fun _ => some (b + (a.length : Int))) (fun k => ?_) (Ev.now _)
    simp only [laws_heldStringS.l0]
    rw [if_neg (by omega), show i = a.length by omega]
  | succ d ih =>
    intro i hi
    have hilt : (i : Int) < (a.length : Int) := by omega
    have h0 : (0 : Int) ≤ (i : Int) := by omega
    have w1 : wrap64 ((b : Int) + (i : Int) + 1) = (b : Int) + ((i + 1 : Nat) : Int) := by rw [wr (by omega) (by omega)]; omega
    have w2 : wrap64 ((i : Int) + 1) = ((i + 1 : Nat) : Int) := by rw [wr (by omega) (by omega)]; omega
    refine Ev.step (fun k => by simp only [laws_heldStringS.l0]; rw [if_pos hilt, if_pos h0]) (Ev.bind (hT _ (by omega)) ?_)
    simp only [rdS (show i < a.length by omega), ha i (by omega), if_true, w1, w2]
    exact ih (i + 1) (by omega)
/-- What has been marked is held. -/
theorem markStringS_ev (a : List ByteArray) (hn : (a.length : Int) ≤ 4611686018427387904) :
    ∃ r : List ByteArray, Ev (fun k => laws_markStringS.f k a 1) (1 + (a.length : Int), r) ∧ Ev (fun k => laws_heldStringS.f k r 1) (1 + (a.length : Int)) := by
  obtain ⟨T, hT⟩ := markText_fun
  obtain ⟨r, h1, h2, h3⟩ := markStringS_loop T hT 1 (by omega) a.length a 0 (by omega) hn (fun j h hj => by omega)
  refine ⟨r, h1, ?_⟩
  have := heldStringS_loop T hT 1 (by omega) r (by omega) h3 r.length 0 (by omega)
  rw [h2] at this
  exact this
theorem bt_lt {s : ByteArray} {i : Nat} (h : i < s.size) : bt s (i : Int) = (bytesOf s)[i]'(by unfold bytesOf; simpa using h) := by
  unfold bt bytesOf; simp [h]; rfl
theorem bytesOf_len (s : ByteArray) : (bytesOf s).length = s.size := by unfold bytesOf; simp
def stT (c : Int) : Int := if c = 107 then 1 else if c = 100 then 2 else if c = 105 then 1 else if c = 111 then 0 else if c = 98 then 1 else -1
def stM (c : Int) : Int := if c = 105 then 2 else if c = 98 then 0 else 1
def stY (c : Int) : Int := if c = 107 then 3 else if c = 100 then 4 else if c = 105 then 6 else if c = 111 then 4 else if c = 98 then 5 else 0
theorem stT_le (c : Int) : stT c ≤ 2 := by unfold stT; repeat' split <;> omega
theorem stM_le (c : Int) : 0 ≤ stM c ∧ stM c ≤ 2 := by unfold stM; repeat' split <;> omega
theorem stY_le (c : Int) : 0 ≤ stY c ∧ stY c ≤ 6 := by unfold stY; repeat' split <;> omega
theorem takes_ev (c : Int) : Ev (fun k => spec_l05Takes.f k c) (stT c) := by
  unfold spec_l05Takes.f stT
  by_cases h1 : c = 107
  · subst h1; simp only [if_true]; exact Ev.step (f := fun _ => some 1) (fun k => by simp [spec_l05Takes.j0]) (Ev.now _)
  · by_cases h3 : c = 105
    · subst h3; simp only [if_neg h1, if_true]; exact Ev.step (f := fun _ => some 1) (fun k => by simp [spec_l05Takes.j0]) (Ev.now _)
    · simp only [if_neg h1, if_neg h3]
      by_cases h5 : c = 98
      · subst h5; exact Ev.step (f := fun _ => some 1) (fun k => by simp [spec_l05Takes.j0]) (Ev.now _)
      · have hb : (c == 98) = false := by simpa using h5
        rw [hb]
        by_cases h2 : c = 100
        · subst h2; exact Ev.step (f := fun _ => some 2) (fun k => by simp [spec_l05Takes.j0]) (Ev.now _)
        · by_cases h4 : c = 111
          · subst h4; exact Ev.step (f := fun _ => some 0) (fun k => by simp [spec_l05Takes.j0]) (Ev.now _)
          · simp only [if_neg h2, if_neg h4, if_neg h5]
            exact Ev.step (f := fun _ => some (-1)) (fun k => by simp [spec_l05Takes.j0, h2, h4]) (Ev.now _)
theorem makes_f (c : Int) : spec_l05Makes.f c = some (stM c) := by
  unfold spec_l05Makes.f stM
  by_cases h1 : c = 105
  · rw [if_pos h1, if_pos h1]
  · rw [if_neg h1, if_neg h1]
    by_cases h2 : c = 98
    · rw [if_pos h2, if_pos h2]
    · rw [if_neg h2, if_neg h2]
theorem stitch_f (c : Int) : impl_stitchOf.f c = some (if 0 ≤ stT c then (stT c, stM c, stY c, true) else (0, 0, 0, false)) := by
  unfold impl_stitchOf.f stT stM stY
  by_cases h1 : c = 107
  · subst h1; simp
  · by_cases h2 : c = 100
    · subst h2; simp
    · by_cases h3 : c = 105
      · subst h3; simp
      · by_cases h4 : c = 111
        · subst h4; simp
        · by_cases h5 : c = 98
          · subst h5; simp
          · simp [h1, h2, h3, h4, h5]
/-- What the stitches of a row take, make and need together. -/
def rowS : List Int → Option (Int × Int × Int)
  | [] => some (0, 0, 0)
  | c :: l => if 0 ≤ stT c then (rowS l).map fun r => (stT c + r.1, stM c + r.2.1, stY c + r.2.2) else none
theorem rowS_bound : ∀ (l : List Int) (r : Int × Int × Int), rowS l = some r → (0 ≤ r.1 ∧ r.1 ≤ 2 * l.length) ∧ (0 ≤ r.2.1 ∧ r.2.1 ≤ 2 * l.length) ∧ (0 ≤ r.2.2 ∧ r.2.2 ≤ 6 * l.length)
  | [], r, h => by simp only [rowS, Option.some.injEq] at h; subst h; simp
  | c :: l, r, h => by
    simp only [rowS] at h
    split at h
    · obtain ⟨q, hq, rfl⟩ := Option.map_eq_some_iff.1 h
      have := rowS_bound l q hq
      have a := stT_le c
      have b := stM_le c
      have d := stY_le c
      simp only [List.length_cons]
      omega
    · cases h
theorem spec_row_loop (s : ByteArray) (hs : s.size ≤ 140737488351232) (d : Nat) : ∀ (i : Nat) (a b : Int), i + d = s.size → (0 ≤ a ∧ a ≤ 2 * i) → (0 ≤ b ∧ b ≤ 2 * i) →
    Ev (fun k => spec_l05Row.l0 k s a b (i : Int)) (match rowS ((bytesOf s).drop i) with | none => (0, 0, false) | some r => (a + r.1, b + r.2.1, true)) := by
  induction d with
  | zero =>
    intro i a b hi ha hb
    refine Ev.step (f := fun _ => some (a, b, true)) (fun k => ?_) (ev_id (Ev.now _) ?_)
    · simp only [spec_l05Row.l0]; rw [if_neg (by omega)]
    · rw [List.drop_eq_nil_of_le (by rw [bytesOf_len]; omega)]; simp [rowS]
  | succ d ih =>
    intro i a b hi ha hb
    have hil : i < s.size := by omega
    have hil' : i < (bytesOf s).length := by rw [bytesOf_len]; exact hil
    have hlt : (i : Int) < (s.size : Int) := by omega
    have h0 : (0 : Int) ≤ (i : Int) := by omega
    rw [List.drop_eq_getElem_cons hil']
    refine Ev.step (fun k => by simp only [spec_l05Row.l0, bt_lt hil]; rw [if_pos hlt, if_pos h0]) (Ev.bind (takes_ev _) ?_)
    generalize (bytesOf s)[i] = c
    have tl := stT_le c
    have ml := stM_le c
    by_cases hc : 0 ≤ stT c
    · simp only [if_neg (show ¬ (stT c < 0) by omega), makes_f, Option.bind_some, rowS, if_pos hc]
      rw [wr (n := a + stT c) (by omega) (by omega), wr (n := b + stM c) (by omega) (by omega), wr (n := (i : Int) + 1) (by omega) (by omega)]
      refine ev_id (ih (i + 1) (a + stT c) (b + stM c) (by omega) (by omega) (by omega)) ?_
      cases rowS ((bytesOf s).drop (i + 1)) with
      | none => rfl
      | some r => simp only [Option.map_some, Int.add_assoc]
    · simp only [if_pos (show stT c < 0 by omega), rowS, if_neg hc]; exact Ev.now _
theorem spec_row_ev (s : ByteArray) (hs : s.size ≤ 140737488351232) : Ev (fun k => spec_l05Row.f k s) (match rowS (bytesOf s) with | none => (0, 0, false) | some r => (r.1, r.2.1, true)) := by
  unfold spec_l05Row.f
  have := spec_row_loop s hs s.size 0 0 0 (by omega) (by omega) (by omega)
  simpa using this
theorem impl_row_loop (s : ByteArray) (hs : s.size ≤ 140737488351232) (d : Nat) : ∀ (i : Nat) (a b y : Int), i + d = s.size → (0 ≤ a ∧ a ≤ 2 * i) → (0 ≤ b ∧ b ≤ 2 * i) → (0 ≤ y ∧ y ≤ 6 * i) →
    Ev (fun k => impl_rowOf.l0 k s (s.size : Int) (i : Int) a b y) (match rowS ((bytesOf s).drop i) with | none => (0, 0, 0, false) | some r => (a + r.1, b + r.2.1, y + r.2.2, true)) := by
  induction d with
  | zero =>
    intro i a b y hi ha hb hy
    refine Ev.step (f := fun _ => some (a, b, y, true)) (fun k => ?_) (ev_id (Ev.now _) ?_)
    · simp only [impl_rowOf.l0]; rw [if_neg (by omega)]
    · rw [List.drop_eq_nil_of_le (by rw [bytesOf_len]; omega)]; simp [rowS]
  | succ d ih =>
    intro i a b y hi ha hb hy
    have hil : i < s.size := by omega
    have hil' : i < (bytesOf s).length := by rw [bytesOf_len]; exact hil
    have hlt : (i : Int) < (s.size : Int) := by omega
    have h0 : (0 : Int) ≤ (i : Int) := by omega
    rw [List.drop_eq_getElem_cons hil']
    refine Ev.step (fun k => by simp only [impl_rowOf.l0, bt_lt hil, stitch_f, Option.bind_some]; rw [if_pos hlt, if_pos h0, if_pos hlt]) ?_
    generalize (bytesOf s)[i] = c
    have tl := stT_le c
    have ml := stM_le c
    have yl := stY_le c
    by_cases hc : 0 ≤ stT c
    · simp only [if_pos hc, if_true, rowS]
      rw [wr (n := a + stT c) (by omega) (by omega), wr (n := b + stM c) (by omega) (by omega), wr (n := y + stY c) (by omega) (by omega), wr (n := (i : Int) + 1) (by omega) (by omega)]
      refine ev_id (ih (i + 1) (a + stT c) (b + stM c) (y + stY c) (by omega) (by omega) (by omega) (by omega)) ?_
      cases rowS ((bytesOf s).drop (i + 1)) with
      | none => rfl
      | some r => simp only [Option.map_some, Int.add_assoc]
    · simp only [if_neg hc, rowS, Bool.false_eq_true, if_false]; exact Ev.now _
theorem impl_row_ev (s : ByteArray) (hs : s.size ≤ 140737488351232) : Ev (fun k => impl_rowOf.f k s) (match rowS (bytesOf s) with | none => (0, 0, 0, false) | some r => (r.1, r.2.1, r.2.2, true)) := by
  unfold impl_rowOf.f
  have := impl_row_loop s hs s.size 0 0 0 0 (by omega) (by omega) (by omega) (by omega)
  simpa using this
/-- The index, counted from i on, of the first row with which a fabric is not valid, or -1. -/
def bad : Int → List ByteArray → Int → Int
  | _, [], _ => -1
  | w, s :: l, i => match rowS (bytesOf s) with
    | none => i
    | some r => if w = 0 ∨ r.1 ≠ w ∨ r.2.1 > 60 ∨ i ≥ 30 then i else bad r.2.1 l (i + 1)
theorem bad_ge : ∀ (l : List ByteArray) (w i : Int), 0 ≤ i → bad w l i = -1 ∨ 0 ≤ bad w l i
  | [], w, i, h => .inl rfl
  | s :: l, w, i, h => by
    simp only [bad]
    split
    · exact .inr h
    · split
      · exact .inr h
      · exact bad_ge l _ (i + 1) (by omega)
theorem spec_bad_loop (l : List ByteArray) (hl : (l.length : Int) ≤ 140737488351232) (hs : ∀ x ∈ l, x.size ≤ 140737488351232) (d : Nat) : ∀ (i : Nat) (w : Int), i + d = l.length →
    Ev (fun k => spec_l05Bad.l0 k l w (i : Int)) (bad w (l.drop i) i) := by
  induction d with
  | zero =>
    intro i w hi
    refine Ev.step (f := fun _ => some (-1)) (fun k => ?_) (ev_id (Ev.now _) ?_)
    · simp only [spec_l05Bad.l0]; rw [if_neg (by omega)]
    · rw [List.drop_eq_nil_of_le (by omega)]; rfl
  | succ d ih =>
    intro i w hi
    have hil : i < l.length := by omega
    have hlt : (i : Int) < (l.length : Int) := by omega
    have h0 : (0 : Int) ≤ (i : Int) := by omega
    refine Ev.step (fun k => by simp only [spec_l05Bad.l0, rdS hil]; rw [if_pos hlt, if_pos h0]) (Ev.bind (spec_row_ev _ (hs _ (List.getElem_mem _))) ?_)
    rw [List.drop_eq_getElem_cons hil]
    simp only [bad]
    have hi1 := ih (i + 1)
    cases rowS (bytesOf l[i]) with
    | none => simp only [Bool.false_eq_true, if_false]; exact Ev.now _
    | some r =>
      simp only [if_true]
      by_cases c1 : w = 0
      · simp only [c1, if_true, true_or]; exact Ev.now _
      · by_cases c2 : r.1 = w
        · by_cases c3 : r.2.1 > 60
          · simp only [if_neg c1, if_pos c2, if_pos c3, c3, true_or, or_true, if_true]; exact Ev.now _
          · by_cases c4 : (i : Int) ≥ 30
            · simp only [if_neg c1, if_pos c2, if_neg c3, if_pos c4, c4, or_true, if_true]; exact Ev.now _
            · have hn : ¬ (w = 0 ∨ r.1 ≠ w ∨ r.2.1 > 60 ∨ (i : Int) ≥ 30) := by omega
              simp only [if_neg c1, if_pos c2, if_neg c3, if_neg c4, if_neg hn]
              rw [wr (n := (i : Int) + 1) (by omega) (by omega)]
              exact hi1 r.2.1 (by omega)
        · have hp : (w = 0 ∨ r.1 ≠ w ∨ r.2.1 > 60 ∨ (i : Int) ≥ 30) := .inr (.inl c2)
          simp only [if_neg c1, if_neg c2, if_pos hp]; exact Ev.now _
theorem spec_bad_ev (l : List ByteArray) (w : Int) (hl : (l.length : Int) ≤ 140737488351232) (hs : ∀ x ∈ l, x.size ≤ 140737488351232) : Ev (fun k => spec_l05Bad.f k w l) (bad w l 0) := by
  unfold spec_l05Bad.f
  have := spec_bad_loop l hl hs l.length 0 w (by omega)
  simpa using this
theorem impl_bad_loop (l : List ByteArray) (hl : (l.length : Int) ≤ 140737488351232) (hs : ∀ x ∈ l, x.size ≤ 140737488351232) (d : Nat) : ∀ (i : Nat) (w : Int), i + d = l.length →
    Ev (fun k => impl_badRow.l0 k w l (l.length : Int) (i : Int)) (bad w (l.drop i) i) := by
  induction d with
  | zero =>
    intro i w hi
    refine Ev.step (f := fun _ => some (-1)) (fun k => ?_) (ev_id (Ev.now _) ?_)
    · simp only [impl_badRow.l0]; rw [if_neg (by omega)]
    · rw [List.drop_eq_nil_of_le (by omega)]; rfl
  | succ d ih =>
    intro i w hi
    have hil : i < l.length := by omega
    have hlt : (i : Int) < (l.length : Int) := by omega
    have h0 : (0 : Int) ≤ (i : Int) := by omega
    refine Ev.step (fun k => by simp only [impl_badRow.l0, rdS hil]; rw [if_pos hlt, if_pos h0, if_pos hlt]) (Ev.bind (impl_row_ev _ (hs _ (List.getElem_mem _))) ?_)
    rw [List.drop_eq_getElem_cons hil]
    simp only [bad]
    have hi1 := ih (i + 1)
    cases rowS (bytesOf l[i]) with
    | none => simp only [Bool.false_eq_true, if_false]; exact Ev.now _
    | some r =>
      simp only [if_true]
      by_cases c4 : (i : Int) ≥ 30
      · have hp : (w = 0 ∨ r.1 ≠ w ∨ r.2.1 > 60 ∨ (i : Int) ≥ 30) := .inr (.inr (.inr c4))
        simp only [if_pos c4, if_pos hp]; exact Ev.now _
      · by_cases c1 : w = 0
        · simp only [if_neg c4, c1, if_true, true_or]; exact Ev.now _
        · by_cases c2 : r.1 = w
          · by_cases c3 : r.2.1 > 60
            · simp only [if_neg c4, if_neg c1, if_pos c2, if_pos c3, c3, true_or, or_true, if_true]; exact Ev.now _
            · have hn : ¬ (w = 0 ∨ r.1 ≠ w ∨ r.2.1 > 60 ∨ (i : Int) ≥ 30) := by omega
              simp only [if_neg c1, if_pos c2, if_neg c3, if_neg c4, if_neg hn]
              rw [wr (n := (i : Int) + 1) (by omega) (by omega)]
              exact hi1 r.2.1 (by omega)
          · have hp : (w = 0 ∨ r.1 ≠ w ∨ r.2.1 > 60 ∨ (i : Int) ≥ 30) := .inr (.inl c2)
            simp only [if_neg c4, if_neg c1, if_neg c2, if_pos hp]; exact Ev.now _
theorem impl_bad_ev (l : List ByteArray) (w : Int) (hl : (l.length : Int) ≤ 140737488351232) (hs : ∀ x ∈ l, x.size ≤ 140737488351232) : Ev (fun k => impl_badRow.f k w l) (bad w l 0) := by
  unfold impl_badRow.f
  have := impl_bad_loop l hl hs l.length 0 w (by omega)
  simpa using this
theorem szFabric_ev (a : Int) (l : List ByteArray) (n : Int) (hl : (l.length : Int) ≤ 140737488351232) (hs : ∀ x ∈ l, x.size ≤ 140737488351232) (h0 : 0 ≤ n) (h1 : n ≤ 1048576) :
    ∃ r, Ev (fun k => laws_szFabric.f k a l n) r ∧ (r = -1 ∨ (0 ≤ r ∧ r ≤ n ∧ (l.length : Int) ≤ n ∧ ∀ x ∈ l, (x.size : Int) ≤ n)) := by
  obtain ⟨r, e, hr⟩ := szString_ev l n hl hs h0 h1
  unfold laws_szFabric.f
  rcases hr with rfl | h
  · exact ⟨-1, Ev.bind e (by simp only [show ((-1 : Int) < 0) from by omega, if_true]; exact Ev.now _), .inl rfl⟩
  · refine ⟨r, Ev.bind e ?_, .inr h⟩
    have : ¬ r < 0 := by omega
    simp only [if_neg this]; exact Ev.now _
theorem toFabric_ev (a : Int) (l : List ByteArray) (hl : (l.length : Int) ≤ 8796093022208) : Ev (fun k => laws_toFabric.f k a l) (a, l) := by
  unfold laws_toFabric.f
  exact Ev.bind (toStringS_ev l hl) (Ev.now _)
theorem eqFabric_self (a : Int) (l : List ByteArray) (hl : (l.length : Int) ≤ 4611686018427387904) : Ev (fun k => laws_eqFabric.f k a l a l) true := by
  unfold laws_eqFabric.f
  simp only [if_true]
  exact Ev.bind (eqStringS_self l hl) (by simp only [if_true]; exact Ev.now _)
/-- Is a fabric valid? -/
def okF (a : Int) (l : List ByteArray) : Bool := decide ((1 ≤ wrap64 a ∧ wrap64 a ≤ 60) ∧ bad (wrap64 a) l 0 < 0)
theorem spec_okF (a : Int) (l : List ByteArray) (hl : (l.length : Int) ≤ 140737488351232) (hs : ∀ x ∈ l, x.size ≤ 140737488351232) : Ev (fun k => spec_l05Ok.f k a l) (okF a l) := by
  unfold spec_l05Ok.f spec_l05Cast.f okF
  simp only [l00In_f, Option.bind_some, if_dec]
  by_cases h : 1 ≤ wrap64 a ∧ wrap64 a ≤ 60
  · simp only [if_pos h, h, true_and]
    exact Ev.bind (spec_bad_ev l _ hl hs) (by exact Ev.now _)
  · simp only [if_neg h, h, false_and, decide_false]; exact Ev.now _
theorem impl_okF (a : Int) (l : List ByteArray) (hl : (l.length : Int) ≤ 140737488351232) (hs : ∀ x ∈ l, x.size ≤ 140737488351232) : Ev (fun k => impl_ValidFabric.f k a l) (okF a l) := by
  unfold impl_ValidFabric.f impl_isLoops.f okF
  simp only [within_f, Option.bind_some, if_dec]
  by_cases h : 1 ≤ wrap64 a ∧ wrap64 a ≤ 60
  · simp only [if_pos h, h, true_and]
    exact Ev.bind (impl_bad_ev l _ hl hs) (by exact Ev.now _)
  · simp only [if_neg h, h, false_and, decide_false]; exact Ev.now _
theorem bad_neg : ∀ (l : List ByteArray) (w i : Int), 0 ≤ i → w ≤ 60 → bad w l i < 0 → (l = [] ∨ (l.length : Int) + i ≤ 30) ∧ ∀ s ∈ l, ∃ r, rowS (bytesOf s) = some r ∧ r.1 ≤ 60 ∧ r.2.1 ≤ 60
  | [], w, i, _, _, _ => ⟨.inl rfl, by simp⟩
  | s :: l, w, i, hi, hw, h => by
    simp only [bad] at h
    cases hr : rowS (bytesOf s) with
    | none => rw [hr] at h; simp only at h; omega
    | some r =>
      rw [hr] at h
      simp only at h
      by_cases hc : w = 0 ∨ r.1 ≠ w ∨ r.2.1 > 60 ∨ i ≥ 30
      · rw [if_pos hc] at h; omega
      · rw [if_neg hc] at h
        obtain ⟨h1, h2⟩ := bad_neg l r.2.1 (i + 1) (by omega) (by omega) h
        refine ⟨.inr ?_, fun x hx => ?_⟩
        · simp only [List.length_cons]
          rcases h1 with rfl | h1
          · simp; omega
          · omega
        · rcases List.mem_cons.1 hx with rfl | hx
          · exact ⟨r, hr, by omega, by omega⟩
          · exact h2 x hx
theorem okF_rows {a : Int} {l : List ByteArray} (h : okF a l = true) : (1 ≤ wrap64 a ∧ wrap64 a ≤ 60) ∧ l.length ≤ 30 ∧ ∀ s ∈ l, ∃ r, rowS (bytesOf s) = some r ∧ r.1 ≤ 60 ∧ r.2.1 ≤ 60 := by
  unfold okF at h
  obtain ⟨h1, h2⟩ := of_decide_eq_true h
  obtain ⟨h3, h4⟩ := bad_neg l _ 0 (by omega) (by omega) h2
  refine ⟨h1, ?_, h4⟩
  rcases h3 with rfl | h3
  · simp
  · omega
theorem markFab_ev (a : Int) (l : List ByteArray) (hn : (l.length : Int) ≤ 4611686018427387904) :
    ∃ r : List ByteArray, Ev (fun k => laws_markFabric.f k a l 1) (1 + (l.length : Int), r) ∧ Ev (fun k => laws_heldFabric.f k a r 1) (1 + (l.length : Int)) := by
  obtain ⟨r, h1, h2⟩ := markStringS_ev l hn
  refine ⟨r, ?_, ?_⟩
  · unfold laws_markFabric.f; exact Ev.bind h1 (Ev.now _)
  · unfold laws_heldFabric.f
    refine Ev.bind h2 ?_
    have hneg : ¬ (1 + (l.length : Int) < 0) := by omega
    simp only [if_neg hneg]; exact Ev.now _
theorem str_rev (s : ByteArray) : strOfNums (bytesOf s).reverse = impl_MirrorFabric.rev s := by
  unfold strOfNums impl_MirrorFabric.rev bytesOf
  apply ByteArray.ext
  simp [← List.map_reverse, Function.comp_def]
theorem mir_in (a : Int) (l : List ByteArray) (i : Nat) (hil : i < l.length) (hi : i < 1048576) (hs : l[i].size ≤ 140737488351232) (out : List ByteArray) (ho : out.length ≤ 1048576) (R : Int × List ByteArray × Int)
    (next : Ev (fun k => spec_MirrorFabric.l0 k ((i + 1 : Nat) : Int) a l a (out ++ [impl_MirrorFabric.rev l[i]])) R) (j : Nat) : j ≤ l[i].size → Ev (fun k => spec_MirrorFabric.l1 k (i : Int) ((bytesOf l[i]).drop j).reverse ((j : Int) - 1) a l a out) R := by
  have hb : (bytesOf l[i]).length = l[i].size := bytesOf_len _
  induction j with
  | zero =>
    intro _
    refine Ev.step (fun k => ?_) next
    have c1 : ¬ (((0 : Nat) : Int) - 1 ≥ 0) := by omega
    have c2 : out.length < 8796093022208 := by omega
    have wi : wrap64 ((i : Int) + 1) = ((i + 1 : Nat) : Int) := by rw [wr (by omega) (by omega)]; omega
    simp only [spec_MirrorFabric.l1, if_neg c1, if_pos c2, wi, List.drop_zero, str_rev]
  | succ j ih =>
    intro hj
    have hjl : j < (bytesOf l[i]).length := by omega
    have e : ((bytesOf l[i]).drop j).reverse = ((bytesOf l[i]).drop (j + 1)).reverse ++ [(bytesOf l[i])[j]] := by
      rw [List.drop_eq_getElem_cons hjl, List.reverse_cons]
    have z := ih (by omega)
    rw [e] at z
    refine Ev.step (fun k => ?_) z
    have wj : wrap64 ((((j + 1 : Nat) : Int) - 1) - 1) = (j : Int) - 1 := by rw [wr (by omega) (by omega)]; omega
    have er : rdOf ByteArray.empty l (i : Int) = l[i] := by unfold rdOf; simp [List.getD, hil]
    have ej : ((j + 1 : Nat) : Int) - 1 = (j : Int) := by omega
    have eb : bt l[i] (j : Int) = (bytesOf l[i])[j] := bt_lt (by omega)
    have c1 : (j : Int) ≥ 0 := by omega
    have c2 : (0 : Int) ≤ (i : Int) := by omega
    have c3 : (i : Int) < (l.length : Int) := by omega
    have c4 : (j : Int) < (l[i].size : Int) := by omega
    have c5 : ((bytesOf l[i]).drop (j + 1)).reverse.length < 140737488355328 := by rw [List.length_reverse, List.length_drop]; omega
    rw [ej] at wj
    simp only [spec_MirrorFabric.l1, ej, er, if_pos c1, if_pos c2, if_pos c3, if_pos c4, if_pos c5, wj, eb]
theorem mir_out (a : Int) (l : List ByteArray) (hl : (l.length : Int) ≤ 1048576) (hs : ∀ x ∈ l, x.size ≤ 140737488351232) (d : Nat) : ∀ i : Nat, i + d = l.length → Ev (fun k => spec_MirrorFabric.l0 k (i : Int) a l a ((l.take i).map impl_MirrorFabric.rev)) (a, l.map impl_MirrorFabric.rev, 0) := by
  induction d with
  | zero =>
    intro i hi
    have : i = l.length := by omega
    subst this
    refine Ev.step (f := fun _ => some (a, l.map impl_MirrorFabric.rev, 0)) (fun k => ?_) (Ev.now _)
    have c1 : ¬ ((l.length : Int) < (l.length : Int)) := by omega
    simp only [spec_MirrorFabric.l0, if_neg c1, List.take_length]
  | succ d ih =>
    intro i hi
    have hil : i < l.length := by omega
    have hsi := hs l[i] (List.getElem_mem hil)
    have e : (l.take (i + 1)).map impl_MirrorFabric.rev = (l.take i).map impl_MirrorFabric.rev ++ [impl_MirrorFabric.rev l[i]] := by
      rw [List.take_add_one, List.getElem?_eq_getElem hil, List.map_append]; rfl
    have z := ih (i + 1) (by omega)
    rw [e] at z
    have q := mir_in a l i hil (by omega) hsi ((l.take i).map impl_MirrorFabric.rev) (by simp; omega) _ z l[i].size (Nat.le_refl _)
    have hb : (bytesOf l[i]).length = l[i].size := bytesOf_len _
    rw [List.drop_eq_nil_of_le (by omega)] at q
    refine Ev.step (fun k => ?_) q
    have er : rdOf ByteArray.empty l (i : Int) = l[i] := by unfold rdOf; simp [List.getD, hil]
    have c2 : (0 : Int) ≤ (i : Int) := by omega
    have c3 : (i : Int) < (l.length : Int) := by omega
    have wj : wrap64 ((l[i].size : Int) - 1) = (l[i].size : Int) - 1 := wr (by omega) (by omega)
    simp only [spec_MirrorFabric.l0, if_pos c2, if_pos c3, er, wj, List.reverse_nil]
theorem Mirror_same (a : Int) (l : List ByteArray) (hl : (l.length : Int) ≤ 1048576) (hs : ∀ x ∈ l, x.size ≤ 140737488351232) : ∃ r : Int × List ByteArray × Int, Ev (fun k => spec_MirrorFabric.f k a l) r ∧ Ev (fun k => impl_MirrorFabric.f k a l) r ∧ r.2.1.length ≤ l.length := by
  have s1 := spec_okF a l (by omega) hs
  have i1 := impl_okF a l (by omega) hs
  unfold spec_MirrorFabric.f impl_MirrorFabric.f
  cases h : okF a l with
  | true =>
    rw [h] at s1 i1
    have c1 : l.length < 8796093022208 := by omega
    refine ⟨(a, l.map impl_MirrorFabric.rev, 0), Ev.bind s1 ?_, Ev.bind i1 ?_, by simp⟩
    · simp only [if_true]
      have z := mir_out a l hl hs l.length 0 (by omega)
      simpa using z
    · simp only [if_true, if_pos c1, if_pos hs]; exact Ev.now _
  | false =>
    rw [h] at s1 i1
    exact ⟨(0, [], 1), Ev.bind s1 (by simp only [Bool.false_eq_true, if_false]; exact Ev.now _), Ev.bind i1 (by simp only [Bool.false_eq_true, if_false]; exact Ev.now _), by simp⟩
theorem FnExactMirrorFabric : laws_FnExactMirrorFabric.Pure := by
  intro a l _ ⟨hl, hs⟩
  refine Ev.rounds ?_
  unfold laws_FnExactMirrorFabric.f
  obtain ⟨r, e, hr⟩ := szFabric_ev a l 1048576 (by omega) hs (by omega) (by omega)
  refine Ev.bind e ?_
  rcases hr with rfl | ⟨h0, h1, h2, h3⟩
  · simp only [show ((-1 : Int) < 0) from by omega, if_true]; exact Ev.now _
  · have hneg : ¬ (r < 0) := by omega
    simp only [if_neg hneg]
    have ht := toFabric_ev a l (by omega)
    obtain ⟨⟨b, w, c⟩, f1, f2, fl⟩ := Mirror_same a l (by omega) hs
    have hw : (w.length : Int) ≤ 4611686018427387904 := by simp only at fl; omega
    obtain ⟨p, n1, _⟩ := markFab_ev a l (by omega)
    obtain ⟨p', m1, m2⟩ := markFab_ev b w hw
    have hneg1 : ¬ (1 + (l.length : Int) < 0) := by omega
    have hneg2 : ¬ (1 + (w.length : Int) < 0) := by omega
    refine Ev.bind ht (Ev.bind f1 (Ev.bind ht (Ev.bind f2 (Ev.bind (eqFabric_self b w hw) ?_))))
    simp only [if_true, bne_self_eq_false]
    refine Ev.step (fun k => by simp only [laws_FnExactMirrorFabric.j0, Bool.false_eq_true, if_false]; rfl) (Ev.bind ht (Ev.bind (eqFabric_self a l (by omega)) ?_))
    simp only [if_true]
    refine Ev.bind n1 ?_
    simp only [if_neg hneg1]
    refine Ev.bind (eqFabric_self b w hw) ?_
    simp only [if_true, bne_self_eq_false]
    refine Ev.step (fun k => by simp only [laws_FnExactMirrorFabric.j1, Bool.false_eq_true, if_false]; rfl) (Ev.bind m1 (Ev.bind m2 ?_))
    simp only [if_neg hneg2, if_true]
    refine Ev.bind ht (Ev.bind f2 (Ev.bind (eqFabric_self b w hw) ?_))
    simp only [if_true, bne_self_eq_false]
    refine Ev.step (fun k => by simp only [laws_FnExactMirrorFabric.j2, Bool.false_eq_true, if_false]; rfl) (Ev.bind m2 ?_)
    simp only [if_neg hneg2, if_true]; exact Ev.now _
end Go.Proofs.Ytfkckobfpfkbjaa.Pure
