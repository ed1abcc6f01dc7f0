/- Winding strands onto the fewest reels answers as the reference does, for all meets, holds, strands and budgets. -/
import Derived.Test.YtjhjabibkkhmjaaXFnExactFewestReelsx7
namespace Go.Proofs.Ytjhjabibkkhmjaa.Pure
open Go.RowKit Go.Proofs.Ytjhjabibkkhmjaa.XFnExactFewestReels Go.Proofs.YtjhjabibkkhmjaaW.PrintWords Go.Proofs.YtjhjabibkkhmjaaW.PrintLast
set_option linter.unusedVariables false
set_option linter.unusedSimpArgs false
theorem wr {n : Int} (h0 : -9223372036854775808 ≤ n) (h1 : n ≤ 9223372036854775807) : wrap64 n = n := by
  unfold wrap64; omega
theorem wf64 {a : Int} (h : (Lit.int .i64 a).wf = true) : -9223372036854775808 ≤ a ∧ a ≤ 9223372036854775807 := by
  simp only [Lit.wf, IntKind.min, IntKind.max, IntKind.signed, IntKind.bits, Bool.and_eq_true, decide_eq_true_eq, if_true] at h
  omega
theorem ev_id {α : Type} {g : Nat → Option α} {r s : α} (h : Ev g r) (e : r = s) : Ev g s := e ▸ h
theorem ev_const {α : Type} {o : Option α} {r : α} (h : o = some r) : Ev (fun _ => o) r := ⟨0, fun _ _ => h⟩
theorem ev_fun {α : Type} {g : Nat → Option α} {r s : α} (h : Ev g r) (k : Ev g s) : r = s := by
  obtain ⟨a, h⟩ := h
  obtain ⟨b, k⟩ := k
  have x := h (max a b) (by omega)
  have y := k (max a b) (by omega)
  rw [x] at y; exact Option.some.inj y
/-- Both come to one answer. -/
def Same {α : Type} (g f : Nat → Option α) : Prop := ∃ r, Ev g r ∧ Ev f r
theorem Same.step {α : Type} {g f g' f' : Nat → Option α} (hg : ∀ k, g (k + 1) = g' k) (hf : ∀ k, f (k + 1) = f' k) (h : Same g' f') : Same g f := by
  obtain ⟨r, a, b⟩ := h
  exact ⟨r, Ev.step hg a, Ev.step hf b⟩
theorem Same.left {α : Type} {g f g' : Nat → Option α} (hg : ∀ k, g (k + 1) = g' k) (h : Same g' f) : Same g f := by
  obtain ⟨r, a, b⟩ := h
  exact ⟨r, Ev.step hg a, b⟩
theorem Same.right {α : Type} {g f f' : Nat → Option α} (hf : ∀ k, f (k + 1) = f' k) (h : Same g f') : Same g f := by
  obtain ⟨r, a, b⟩ := h
  exact ⟨r, a, Ev.step hf b⟩
theorem Same.now {α : Type} (r : α) : Same (fun _ => some r) (fun _ => some r) := ⟨r, Ev.now r, Ev.now r⟩
theorem if_dec {α : Type} {p : Prop} [Decidable p] (a b : α) : (if decide p = true then a else b) = if p then a else b := by
  by_cases h : p <;> simp [h]
theorem w00 : wrap64 0 = 0 := wr (by omega) (by omega)
theorem l00In_f (a b c : Int) : spec_l00In.f a b c = some (decide (b ≤ a ∧ a ≤ c)) := by
  unfold spec_l00In.f
  by_cases h : b ≤ a <;> simp [h]
theorem within_f (a b c : Int) : impl_within.f a b c = some (decide (b ≤ a ∧ a ≤ c)) := by
  unfold impl_within.f
  by_cases h : b ≤ a <;> simp [h]
theorem rd_lt {l : List Int} {i : Nat} (h : i < l.length) : rd l (i : Int) = l[i] := by
  unfold rd; simp [List.getD, h]
theorem eqInt64S_loop (a b : List Int) (hab : a.length = b.length) (hn : (a.length : Int) ≤ 4611686018427387904) (d : Nat) : ∀ (i : Nat), i ≤ a.length → a.length - i = d →
    Ev (fun k => laws_eqInt64S.l0 k a b (i : Int)) (decide (a.drop i = b.drop i)) := by
  induction d with
  | zero =>
    intro i hi hd
    refine Ev.step (f := fun _ => some (decide (a.drop i = b.drop i))) (fun k => ?_) (Ev.now _)
    simp only [laws_eqInt64S.l0]
    rw [if_neg (by omega), List.drop_eq_nil_of_le (by omega), List.drop_eq_nil_of_le (by omega)]; simp
  | succ d ih =>
    intro i hi hd
    have ha : i < a.length := by omega
    have hb : i < b.length := by omega
    by_cases e : a[i] = b[i]
    · refine Ev.step (fun k => ?_) (ev_id (ih (i + 1) (by omega) (by omega)) ?_)
      · simp only [laws_eqInt64S.l0]
        rw [if_pos (by omega), if_pos (by omega), if_pos (by omega), rd_lt ha, rd_lt hb, if_pos e, wr (by omega) (by omega)]; rfl
      · simp only [List.drop_eq_getElem_cons ha, List.drop_eq_getElem_cons hb, List.cons.injEq, e, true_and]
    · refine Ev.step (f := fun _ => some false) (fun k => ?_) (ev_id (Ev.now _) ?_)
      · simp only [laws_eqInt64S.l0]
        rw [if_pos (by omega), if_pos (by omega), if_pos (by omega), rd_lt ha, rd_lt hb, if_neg e]
      · simp only [List.drop_eq_getElem_cons ha, List.drop_eq_getElem_cons hb, List.cons.injEq, e, false_and, decide_false]
theorem eqInt64S_ev (a b : List Int) (hn : (a.length : Int) ≤ 4611686018427387904) : Ev (fun k => laws_eqInt64S.f k a b) (decide (a = b)) := by
  unfold laws_eqInt64S.f
  by_cases h : a.length = b.length
  · simp only [h, if_true]
    simpa using eqInt64S_loop a b h hn a.length 0 (by omega) (by omega)
  · have h' : ¬ (a.length : Int) = b.length := by omega
    simp only [if_neg h']
    have : a ≠ b := fun e => h (by rw [e])
    simpa [this] using Ev.now false
theorem eqInt64S_self (a : List Int) (hn : (a.length : Int) ≤ 4611686018427387904) : Ev (fun k => laws_eqInt64S.f k a a) true := by
  simpa using eqInt64S_ev a a hn
theorem markInt64S_loop (d : Nat) : ∀ (a p : List Int) (m : Int) (i : Nat), i + d = a.length → (a.length : Int) ≤ 4611686018427387904 → m = 1 + i → (∀ j (h : j < a.length), j < i → a[j] = 1 + (j : Int)) →
    ∃ r : List Int, Ev (fun k => laws_markInt64S.l0 k a m (i : Int)) (1 + (a.length : Int), r) ∧ r.length = a.length ∧ ∀ j (h : j < r.length), r[j] = 1 + (j : Int) := by
  induction d with
  | zero =>
    intro a p m i hi hn hm ha
    refine ⟨a, Ev.step (f := fun _ => some (1 + (a.length : Int), a)) (fun k => ?_) (Ev.now _), rfl, fun j h => ha j h (by omega)⟩
    simp only [laws_markInt64S.l0]
    rw [if_neg (by omega), show m = 1 + (a.length : Int) by omega]
  | succ d ih =>
    intro a p m i hi hn hm ha
    obtain ⟨r, h1, h2, h3⟩ := ih (a.set i m) p (m + 1) (i + 1) (by simp; omega) (by simpa using hn) (by omega) (by
      intro j h hj
      simp only [List.getElem_set]
      split
      · omega
      · exact ha j (by simpa using h) (by omega))
    simp only [List.length_set] at h1 h2
    refine ⟨r, Ev.step (fun k => ?_) h1, h2, h3⟩
    simp only [laws_markInt64S.l0]
    rw [if_pos (by omega), if_pos (by omega), wr (n := m + 1) (by omega) (by omega), wr (n := (i : Int) + 1) (by omega) (by omega)]; rfl
theorem heldInt64S_loop (a : List Int) (hn : (a.length : Int) ≤ 4611686018427387904) (ha : ∀ j (h : j < a.length), a[j] = 1 + (j : Int)) (d : Nat) : ∀ (i : Nat), i + d = a.length →
    Ev (fun k => laws_heldInt64S.l0 k a (1 + (i : Int)) (i : Int)) (1 + (a.length : Int)) := by
  induction d with
  | zero =>
    intro i hi
    refine Ev.step (f := fun _ => some (1 + (a.length : Int))) (fun k => ?_) (Ev.now _)
    simp only [laws_heldInt64S.l0]
    rw [if_neg (by omega), show i = a.length by omega]
  | succ d ih =>
    intro i hi
    refine Ev.step (fun k => ?_) (ih (i + 1) (by omega))
    simp only [laws_heldInt64S.l0]
    rw [if_pos (by omega), if_pos (by omega), rd_lt (by omega), if_pos (ha i (by omega)), wr (n := 1 + (i : Int) + 1) (by omega) (by omega), wr (n := (i : Int) + 1) (by omega) (by omega), show 1 + (i : Int) + 1 = 1 + ((i + 1 : Nat) : Int) by omega]; rfl
/-- What has been marked is held. -/
theorem markInt64S_ev (a : List Int) (hn : (a.length : Int) ≤ 4611686018427387904) :
    ∃ r : List Int, Ev (fun k => laws_markInt64S.f k a 1) (1 + (a.length : Int), r) ∧ Ev (fun k => laws_heldInt64S.f k r 1) (1 + (a.length : Int)) := by
  obtain ⟨r, h1, h2, h3⟩ := markInt64S_loop a.length a a 1 0 (by omega) hn (by omega) (fun j h hj => by omega)
  refine ⟨r, h1, ?_⟩
  have := heldInt64S_loop r (by omega) h3 r.length 0 (by omega)
  rw [h2] at this
  exact this
theorem allO_some {α : Type} (p : α → Bool) : ∀ l : List α, allO (fun x => some (p x)) l = some (l.all p)
  | [] => rfl
  | x :: l => by
    simp only [allO, Option.bind_some, List.all_cons, allO_some p l]
    cases p x <;> simp
theorem allG_some {α : Type} (p : α → Bool) (l : List α) (h : (l.length : Int) ≤ 4611686018427387904) : allG l (fun x => some (p x)) = some (l.all p) := by
  unfold allG; rw [if_pos h, allO_some]
theorem allO_on {α : Type} (q : α → Option Bool) (p : α → Bool) : ∀ l : List α, (∀ x ∈ l, q x = some (p x)) → allO q l = some (l.all p)
  | [], _ => rfl
  | x :: l, h => by
    simp only [allO, h x (by simp), Option.bind_some, List.all_cons, allO_on q p l (fun y hy => h y (List.mem_cons_of_mem _ hy))]
    cases p x <;> simp
theorem allG_on {α : Type} (q : α → Option Bool) (p : α → Bool) (l : List α) (hl : (l.length : Int) ≤ 4611686018427387904) (h : ∀ x ∈ l, q x = some (p x)) : allG l q = some (l.all p) := by
  unfold allG; rw [if_pos hl]; exact allO_on q p l h
abbrev LS := S161
abbrev IS := S159
def toS (x : LS) : IS := ⟨x.f0, x.f1⟩
theorem rdIS {l : List IS} {i : Nat} (h : i < l.length) : rd_T159 l (i : Int) = l[i] := by
  unfold rd_T159; simp [List.getD, h]
theorem rdLS {l : List LS} {i : Nat} (h : i < l.length) : rd_T161 l (i : Int) = l[i] := by
  unfold rd_T161; simp [List.getD, h]
theorem szStrand_f (l : List LS) (n : Int) (h0 : (l.length : Int) ≤ 140737488351232) (hn : 0 ≤ n ∧ n ≤ 1048576) : laws_szStrandS.f l n = some (if (l.length : Int) ≤ n then n - l.length else -1) := by
  unfold laws_szStrandS.f
  rw [wr (by omega) (by omega)]
  by_cases h : (l.length : Int) ≤ n
  · rw [if_neg (by omega), if_pos h]
  · rw [if_pos (by omega), if_neg h]
theorem toStrandS_loop (l : List LS) (hl : (l.length : Int) ≤ 140737488351232) (d : Nat) : ∀ (out rest : List IS) (i : Nat), out.length = i → rest.length = d → i + d = l.length →
    Ev (fun k => laws_toStrandS.l0 k l (out ++ rest) (i : Int)) (out ++ (l.drop i).map toS) := by
  induction d with
  | zero =>
    intro out rest i ho hr hi
    refine Ev.step (f := fun _ => some (out ++ (l.drop i).map toS)) (fun k => ?_) (Ev.now _)
    simp only [laws_toStrandS.l0]
    rw [if_neg (by omega), List.drop_eq_nil_of_le (by omega), List.length_eq_zero_iff.1 hr]; simp
  | succ d ih =>
    intro out rest i ho hr hi
    have hil : i < l.length := by omega
    obtain ⟨y, rest, rfl⟩ : ∃ y r, rest = y :: r := by cases rest with | nil => simp at hr | cons y r => exact ⟨y, r, rfl⟩
    refine Ev.step (fun k => ?_) (ev_id (ih (out ++ [toS l[i]]) rest (i + 1) (by simp; omega) (by simpa using hr) (by omega)) ?_)
    · simp only [laws_toStrandS.l0, laws_toStrand.f, Option.bind_some]
      rw [if_pos (by omega), if_pos (by omega), if_pos (by simp; omega), rdLS hil, wr (n := (i : Int) + 1) (by omega) (by omega)]
      have : (out ++ y :: rest).set (i : Int).toNat (⟨l[i].f0, l[i].f1⟩ : IS) = out ++ [toS l[i]] ++ rest := by
        rw [Int.toNat_natCast, List.set_append_right _ _ (by omega), ho]; simp [toS]
      rw [this]; rfl
    · rw [List.drop_eq_getElem_cons hil]; simp only [List.map_cons, List.append_assoc, List.cons_append, List.nil_append]
theorem toStrandS_ev (l : List LS) (hl : (l.length : Int) ≤ 140737488351232) (hl2 : l.length ≤ 46912496118442) : Ev (fun k => laws_toStrandS.f k l) (l.map toS) := by
  unfold laws_toStrandS.f
  have h0 : (0 : Int) ≤ (l.length : Int) := by omega
  have h1 : ((l.length : Int) : Int).toNat ≤ 70368744177664 := by omega
  simp only [if_pos h0, if_pos h1]
  have := toStrandS_loop l hl l.length [] (List.replicate l.length z159) 0 rfl (by simp) (by omega)
  simpa using this
theorem eqStrandS_loop (l : List IS) (hl : (l.length : Int) ≤ 140737488351232) (d : Nat) : ∀ (i : Nat), i + d = l.length → Ev (fun k => laws_eqStrandS.l0 k l l (i : Int)) true := by
  induction d with
  | zero =>
    intro i hi
    refine Ev.step (f := fun _ => some true) (fun k => ?_) (Ev.now _)
    simp only [laws_eqStrandS.l0]; rw [if_neg (by omega)]
  | succ d ih =>
    intro i hi
    refine Ev.step (fun k => ?_) (ih (i + 1) (by omega))
    simp only [laws_eqStrandS.l0, laws_eqStrand.f, if_true, Option.bind_some]
    rw [if_pos (by omega), if_pos (by omega), if_pos (by omega), wr (n := (i : Int) + 1) (by omega) (by omega)]; rfl
theorem eqStrandS_self (l : List IS) (hl : (l.length : Int) ≤ 140737488351232) : Ev (fun k => laws_eqStrandS.f k l l) true := by
  unfold laws_eqStrandS.f
  simp only [if_true]
  exact eqStrandS_loop l hl l.length 0 (by omega)
/-- What a valid strand is. -/
def vS (x : IS) : Bool := decide ((1 ≤ wrap64 x.f0 ∧ wrap64 x.f0 ≤ 2000) ∧ x.f1 < 6)
theorem vS_loop (l : List IS) (hl : (l.length : Int) ≤ 140737488351232) (d : Nat) : ∀ (i : Nat), i + d = l.length → Ev (fun k => spec_l04Strands.l0 k l (i : Int)) ((l.drop i).all vS) := by
  induction d with
  | zero =>
    intro i hi
    refine Ev.step (f := fun _ => some true) (fun k => ?_) (ev_id (Ev.now _) ?_)
    · simp only [spec_l04Strands.l0]; rw [if_neg (by omega)]
    · rw [List.drop_eq_nil_of_le (by omega)]; rfl
  | succ d ih =>
    intro i hi
    have hil : i < l.length := by omega
    rw [List.drop_eq_getElem_cons hil, List.all_cons]
    have hv : vS l[i] = decide ((1 ≤ wrap64 l[i].f0 ∧ wrap64 l[i].f0 ≤ 2000) ∧ l[i].f1 < 6) := rfl
    by_cases h1 : 1 ≤ wrap64 l[i].f0 ∧ wrap64 l[i].f0 ≤ 2000
    · by_cases h2 : l[i].f1 < 6
      · refine Ev.step (fun k => ?_) (ev_id (ih (i + 1) (by omega)) (by rw [hv, decide_eq_true ⟨h1, h2⟩, Bool.true_and]))
        simp only [spec_l04Strands.l0, rdIS hil, l00In_f, Option.bind_some, if_dec]
        rw [if_pos (by omega), if_pos (by omega), if_pos h1, if_neg (by omega), wr (n := (i : Int) + 1) (by omega) (by omega)]; rfl
      · refine Ev.step (f := fun _ => some false) (fun k => ?_) (ev_id (Ev.now _) (by rw [hv, decide_eq_false (fun h => h2 h.2), Bool.false_and]))
        simp only [spec_l04Strands.l0, rdIS hil, l00In_f, Option.bind_some, if_dec]
        rw [if_pos (by omega), if_pos (by omega), if_pos h1, if_pos (by omega)]
    · refine Ev.step (f := fun _ => some false) (fun k => ?_) (ev_id (Ev.now _) (by rw [hv, decide_eq_false (fun h => h1 h.1), Bool.false_and]))
      simp only [spec_l04Strands.l0, rdIS hil, l00In_f, Option.bind_some, if_dec]
      rw [if_pos (by omega), if_pos (by omega), if_neg h1]
theorem vS_ev (l : List IS) (hl : (l.length : Int) ≤ 140737488351232) : Ev (fun k => spec_l04Strands.f k l) (l.all vS) := by
  unfold spec_l04Strands.f
  have := vS_loop l hl l.length 0 (by omega)
  simpa using this
theorem vS_impl (x : IS) : impl_ValidStrands_1.f x.f0 x.f1 = some (vS x) := by
  unfold impl_ValidStrands_1.f vS
  simp only [within_f, Option.bind_some, if_dec]
  by_cases h1 : 1 ≤ wrap64 x.f0 ∧ wrap64 x.f0 ≤ 2000 <;> simp [h1]
theorem validS_f (l : List IS) (hl : (l.length : Int) ≤ 140737488351232) : impl_ValidStrands.f l = some (l.all vS) := by
  unfold impl_ValidStrands.f
  have e : (fun x_ : IS => impl_ValidStrands_1.f x_.f0 x_.f1) = fun x => some (vS x) := funext vS_impl
  show (allG l _).bind _ = _
  rw [e, allG_some vS l (by omega)]; rfl
theorem markStrandS_loop (d : Nat) : ∀ (a : List IS) (m : Int) (i : Nat), i + d = a.length → (a.length : Int) ≤ 1073741824 → 0 ≤ m → m + 2 * d ≤ 4611686018427387904 →
    ∃ r : List IS, Ev (fun k => laws_markStrandS.l0 k a m (i : Int)) (m + 2 * d, r) := by
  induction d with
  | zero =>
    intro a m i hi hn h0 h1
    refine ⟨a, Ev.step (f := fun _ => some (m, a)) (fun k => ?_) (ev_id (Ev.now _) (by simp))⟩
    simp only [laws_markStrandS.l0]
    rw [if_neg (by omega)]
  | succ d ih =>
    intro a m i hi hn h0 h1
    have w1 : wrap64 (m + 1) = m + 1 := wr (by omega) (by omega)
    have w2 : wrap64 (m + 1 + 1) = m + 2 := by rw [wr (by omega) (by omega)]; omega
    have w3 : wrap64 ((i : Int) + 1) = ((i + 1 : Nat) : Int) := by rw [wr (by omega) (by omega)]; omega
    obtain ⟨r, h⟩ := ih ((a.set i (⟨IntKind.i16.wrap m, (rd_T159 a i).f1⟩ : IS)).set i (⟨(rd_T159 (a.set i (⟨IntKind.i16.wrap m, (rd_T159 a i).f1⟩ : IS)) i).f0, (m + 1) % 256⟩ : IS)) (m + 2) (i + 1) (by simp; omega) (by simpa using hn) (by omega) (by omega)
    refine ⟨r, Ev.step (fun k => ?_) (ev_id h (by rw [Prod.mk.injEq]; exact ⟨by omega, rfl⟩))⟩
    simp only [laws_markStrandS.l0, Option.bind_some, w1, w2, w3, Int.toNat_natCast]
    rw [if_pos (by omega), if_pos (by omega)]
theorem markStrandS_ev (a : List IS) (hn : (a.length : Int) ≤ 1073741824) : ∃ r : List IS, Ev (fun k => laws_markStrandS.f k a 1) (1 + 2 * (a.length : Int), r) := by
  obtain ⟨r, h⟩ := markStrandS_loop a.length a 1 0 (by omega) hn (by omega) (by omega)
  exact ⟨r, h⟩
theorem wfu8 {a : Int} (h : (Lit.int .u8 a).wf = true) : 0 ≤ a ∧ a < 256 := by
  simp only [Lit.wf, IntKind.min, IntKind.max, IntKind.signed, IntKind.bits, Bool.and_eq_true, decide_eq_true_eq, if_false, Bool.false_eq_true] at h
  omega
theorem rd_u8 (ms : List Int) (h : ∀ x ∈ ms, 0 ≤ x ∧ x < 256) (k : Int) : 0 ≤ rd ms k ∧ rd ms k < 256 := by
  unfold rd
  rw [List.getD_eq_getElem?_getD]
  cases hk : ms[k.toNat]? with
  | none => simp
  | some x => simpa using h x (List.mem_of_getElem? hk)
theorem shift_u8 {x : Int} (a : Nat) (h0 : 0 ≤ x) (h1 : x < 256) : 0 ≤ x / 2 ^ a ∧ x / 2 ^ a < 256 := by
  refine ⟨Int.ediv_nonneg h0 (Int.le_of_lt (Int.pow_pos (by omega))), ?_⟩
  exact Int.lt_of_le_of_lt (Int.ediv_le_self _ h0) h1
theorem and1_u8 {x : Int} (h0 : 0 ≤ x) (h1 : x < 256) : bits BinOp.and IntKind.u8 x 1 = x % 2 := by
  have z := bits_mask .u8 8 (by decide) wraps_u8 1 (by decide) x h0 h1
  simpa using z
theorem tmod2 {x : Int} (h0 : 0 ≤ x) : x.tmod 2 = x % 2 := Int.tmod_eq_emod_of_nonneg h0
theorem bit_same {x : Int} (a : Nat) (h0 : 0 ≤ x) (h1 : x < 256) : impl_mBit x a = spec_mBit x a := by
  obtain ⟨s0, s1⟩ := shift_u8 a h0 h1
  unfold impl_mBit spec_mBit
  rw [and1_u8 s0 s1, tmod2 s0]
theorem vmB_same (ms : List Int) (hm : ∀ x ∈ ms, 0 ≤ x ∧ x < 256) {x : Int} (h0 : 0 ≤ x) (h1 : x < 256) (a : Nat) : ∀ d, impl_vmB ms x a d = spec_vmB ms x a d
  | 0 => rfl
  | d + 1 => by
    simp only [impl_vmB, spec_vmB]
    rw [bit_same _ h0 h1, bit_same a (rd_u8 ms hm _).1 (rd_u8 ms hm _).2, vmB_same ms hm h0 h1 a d]
theorem vmA_same (ms : List Int) (hm : ∀ x ∈ ms, 0 ≤ x ∧ x < 256) : ∀ d, impl_vmA ms d = spec_vmA ms d
  | 0 => rfl
  | d + 1 => by
    simp only [impl_vmA, spec_vmA]
    have h := rd_u8 ms hm ((5 - d : Nat) : Int)
    rw [bit_same _ h.1 h.2, vmB_same ms hm h.1 h.2, vmA_same ms hm d]
/-- Are meets valid? -/
def okM (a b c d e f : Int) : Bool := spec_vmA [a, b, c, d, e, f] 6
def U8 (a b c d e f : Int) : Prop := ∀ x ∈ [a, b, c, d, e, f], 0 ≤ x ∧ x < 256
theorem U8.mk {a b c d e f : Int} (ha : (Lit.int .u8 a).wf = true) (hb : (Lit.int .u8 b).wf = true) (hc : (Lit.int .u8 c).wf = true) (hd : (Lit.int .u8 d).wf = true) (he : (Lit.int .u8 e).wf = true) (hf : (Lit.int .u8 f).wf = true) : U8 a b c d e f := by
  intro x hx
  simp only [List.mem_cons, List.not_mem_nil, or_false] at hx
  rcases hx with rfl | rfl | rfl | rfl | rfl | rfl
  · exact wfu8 ha
  · exact wfu8 hb
  · exact wfu8 hc
  · exact wfu8 hd
  · exact wfu8 he
  · exact wfu8 hf
theorem specM_f (a b c d e f : Int) : spec_l04Meets.f a b c d e f = some (okM a b c d e f) := rfl
theorem implM_f {a b c d e f : Int} (h : U8 a b c d e f) : impl_ValidMeets.f a b c d e f = some (okM a b c d e f) := by
  unfold impl_ValidMeets.f okM
  rw [vmA_same _ h]
/-- May two dyes be on one reel? -/
def may (ms : List Int) (a b : Int) : Bool := (rd ms a / 2 ^ b.toNat) % 2 == 1
theorem specMay_f (m0 m1 m2 m3 m4 m5 aL a bL b : Int) (hm : U8 m0 m1 m2 m3 m4 m5) (ha : 0 ≤ a ∧ a < 6) (hb : 0 ≤ b ∧ b < 6) : spec_l04May.f m0 m1 m2 m3 m4 m5 aL a bL b = some (may [m0, m1, m2, m3, m4, m5] a b) := by
  unfold spec_l04May.f may
  rw [if_pos ⟨ha.1, ha.2, hb.1⟩]
  have w : IntKind.u64.wrap b = b := by
    simp only [IntKind.wrap, IntKind.bits, IntKind.signed]; simp; omega
  have h := rd_u8 _ hm a
  rw [w, Nat.min_eq_left (by omega), tmod2 (shift_u8 b.toNat h.1 h.2).1]
theorem implMay_f (m0 m1 m2 m3 m4 m5 aL a bL b : Int) (hm : U8 m0 m1 m2 m3 m4 m5) (ha : 0 ≤ a ∧ a < 6) (hb : 0 ≤ b ∧ b < 6) : impl_mayWind.f m0 m1 m2 m3 m4 m5 aL a bL b = some (may [m0, m1, m2, m3, m4, m5] a b) := by
  unfold impl_mayWind.f may
  rw [if_pos ⟨ha.1, ha.2, hb.1⟩]
  have h := rd_u8 _ hm a
  have s := shift_u8 b.toNat h.1 h.2
  rw [Nat.min_eq_left (by omega), and1_u8 s.1 s.2]
theorem spec_vmA_spec (ms : List Int) : ∀ d : Nat, d ≤ 6 → spec_vmA ms d = true → ∀ a : Nat, 6 - d ≤ a → a < 6 → spec_mBit (rd ms (a : Int)) a ≠ 0 ∧ spec_vmB ms (rd ms (a : Int)) a 6 = true
  | 0, _, _ => fun a h1 h2 => by omega
  | d + 1, hd, h => fun a h1 h2 => by
    simp only [spec_vmA] at h
    split at h
    · split at h
      · cases h
      · rename_i hb
        split at h
        · rename_i hv
          by_cases he : a = 5 - d
          · subst he; exact ⟨hb, hv⟩
          · exact spec_vmA_spec ms d (by omega) h a (by omega) h2
        · cases h
    · cases h
theorem spec_vmB_spec (ms : List Int) (x : Int) (a : Nat) : ∀ d : Nat, d ≤ 6 → spec_vmB ms x a d = true → ∀ b : Nat, 6 - d ≤ b → b < 6 → spec_mBit x b = spec_mBit (rd ms (b : Int)) a
  | 0, _, _ => fun b h1 h2 => by omega
  | d + 1, hd, h => fun b h1 h2 => by
    simp only [spec_vmB] at h
    split at h
    · rename_i he
      by_cases hb : b = 5 - d
      · subst hb; exact he
      · exact spec_vmB_spec ms x a d (by omega) h b (by omega) h2
    · cases h
theorem may_bit (ms : List Int) (hm : ∀ x ∈ ms, 0 ≤ x ∧ x < 256) (a b : Int) : may ms a b = decide (spec_mBit (rd ms a) b.toNat = 1) := by
  have h := rd_u8 ms hm a
  unfold may spec_mBit
  rw [tmod2 (shift_u8 b.toNat h.1 h.2).1]
  by_cases e : rd ms a / 2 ^ b.toNat % 2 = 1 <;> simp [e]
theorem mBit_two (ms : List Int) (hm : ∀ x ∈ ms, 0 ≤ x ∧ x < 256) (k : Int) (b : Nat) : spec_mBit (rd ms k) b = 0 ∨ spec_mBit (rd ms k) b = 1 := by
  have h := rd_u8 ms hm k
  unfold spec_mBit
  rw [tmod2 (shift_u8 b h.1 h.2).1]
  omega
theorem may_self {m0 m1 m2 m3 m4 m5 : Int} (hm : U8 m0 m1 m2 m3 m4 m5) (ok : okM m0 m1 m2 m3 m4 m5 = true) {a : Int} (ha : 0 ≤ a ∧ a < 6) : may [m0, m1, m2, m3, m4, m5] a a = true := by
  obtain ⟨n, rfl⟩ := Int.eq_ofNat_of_zero_le ha.1
  have h := (spec_vmA_spec _ 6 (by omega) ok n (by omega) (by omega)).1
  rw [may_bit _ hm]
  rcases mBit_two _ hm n n with e | e
  · exact absurd e h
  · simpa using e
theorem may_sym {m0 m1 m2 m3 m4 m5 : Int} (hm : U8 m0 m1 m2 m3 m4 m5) (ok : okM m0 m1 m2 m3 m4 m5 = true) {a b : Int} (ha : 0 ≤ a ∧ a < 6) (hb : 0 ≤ b ∧ b < 6) : may [m0, m1, m2, m3, m4, m5] a b = may [m0, m1, m2, m3, m4, m5] b a := by
  obtain ⟨n, rfl⟩ := Int.eq_ofNat_of_zero_le ha.1
  obtain ⟨j, rfl⟩ := Int.eq_ofNat_of_zero_le hb.1
  have h := spec_vmB_spec _ _ n 6 (by omega) (spec_vmA_spec _ 6 (by omega) ok n (by omega) (by omega)).2 j (by omega) (by omega)
  rw [may_bit _ hm, may_bit _ hm, Int.toNat_natCast, Int.toNat_natCast, h]
theorem vS_of {x : IS} (h : vS x = true) (hw : -32768 ≤ x.f0 ∧ x.f0 ≤ 32767) : 1 ≤ x.f0 ∧ x.f0 ≤ 2000 ∧ x.f1 < 6 := by
  unfold vS at h
  have := of_decide_eq_true h
  rw [wr (by omega) (by omega)] at this
  omega
/-- A strand as it may be. -/
def OkS (x : IS) : Prop := (1 ≤ x.f0 ∧ x.f0 ≤ 2000) ∧ 0 ≤ x.f1 ∧ x.f1 < 6
/-- The length of strands together. -/
def sumL : List IS → Int
  | [] => 0
  | x :: l => x.f0 + sumL l
theorem sumL_bound : ∀ l : List IS, (∀ x ∈ l, OkS x) → 0 ≤ sumL l ∧ sumL l ≤ 2000 * l.length
  | [], _ => by simp [sumL]
  | x :: l, h => by
    have h1 := h x (by simp)
    have h2 := sumL_bound l (fun y hy => h y (List.mem_cons_of_mem _ hy))
    unfold OkS at h1
    simp only [sumL, List.length_cons]
    omega
/-- May the strands be on one reel? -/
def onP (ms : List Int) (hold : Int) (l : List IS) : Bool := decide (sumL l ≤ hold) && l.all fun a => l.all fun b => may ms a.f1 b.f1
theorem long_loop (l : List IS) (hl : (l.length : Int) ≤ 2097152) (ho : ∀ x ∈ l, OkS x) (d : Nat) : ∀ (i : Nat) (s : Int), i + d = l.length → (0 ≤ s ∧ s ≤ 2000 * i) →
    Ev (fun k => impl_longOf.l0 k s l (l.length : Int) (i : Int)) (s + sumL (l.drop i)) := by
  induction d with
  | zero =>
    intro i s hi hs
    refine Ev.step (f := fun _ => some s) (fun k => ?_) (ev_id (Ev.now _) ?_)
    · simp only [impl_longOf.l0]; rw [if_neg (by omega)]
    · rw [List.drop_eq_nil_of_le (by omega)]; simp [sumL]
  | succ d ih =>
    intro i s hi hs
    have hil : i < l.length := by omega
    have h1 := ho l[i] (List.getElem_mem _)
    unfold OkS at h1
    have w1 : wrap64 l[i].f0 = l[i].f0 := wr (by omega) (by omega)
    have w2 : wrap64 (s + l[i].f0) = s + l[i].f0 := wr (by omega) (by omega)
    refine Ev.step (fun k => ?_) (ev_id (ih (i + 1) (s + l[i].f0) (by omega) (by omega)) ?_)
    · simp only [impl_longOf.l0, rdIS hil, w1, w2]
      rw [if_pos (by omega), if_pos (by omega), if_pos (by omega), wr (n := (i : Int) + 1) (by omega) (by omega)]; rfl
    · rw [List.drop_eq_getElem_cons hil]; simp only [sumL]; omega
theorem implOn_ev {m0 m1 m2 m3 m4 m5 : Int} (hm : U8 m0 m1 m2 m3 m4 m5) (ok : okM m0 m1 m2 m3 m4 m5 = true) (hold : Int) (l : List IS) (hl : (l.length : Int) ≤ 2097152) (ho : ∀ x ∈ l, OkS x) :
    Ev (fun k => impl_onReel.f k m0 m1 m2 m3 m4 m5 hold l) (onP [m0, m1, m2, m3, m4, m5] hold l) := by
  unfold impl_onReel.f onP
  have h := long_loop l hl ho l.length 0 0 (by omega) (by omega)
  simp only [List.drop_zero, Int.zero_add] at h
  refine Ev.bind h ?_
  by_cases hs : sumL l ≤ hold
  · simp only [if_pos hs, decide_eq_true hs, Bool.true_and]
    have q : ∀ a ∈ l, impl_onReel_1.f a.f0 a.f1 l m0 m1 m2 m3 m4 m5 = some (l.all fun b => may [m0, m1, m2, m3, m4, m5] a.f1 b.f1) := by
      intro a ha
      unfold impl_onReel_1.f
      have e : impl_Strand_171.f l (fun x_ => impl_onReel_1_1.f x_.f0 x_.f1 m0 m1 m2 m3 m4 m5 a.f0 a.f1) = some (l.all fun b => may [m0, m1, m2, m3, m4, m5] a.f1 b.f1) := by
        show allG l _ = _
        refine allG_on _ _ l (by omega) fun b hb => ?_
        unfold impl_onReel_1_1.f
        have oa := ho a ha
        have ob := ho b hb
        unfold OkS at oa ob
        rw [implMay_f m0 m1 m2 m3 m4 m5 a.f0 a.f1 b.f0 b.f1 hm oa.2 ob.2]; rfl
      rw [e]; rfl
    have e : impl_Strand_171.f l (fun x_ => impl_onReel_1.f x_.f0 x_.f1 l m0 m1 m2 m3 m4 m5) = some (l.all fun a => l.all fun b => may [m0, m1, m2, m3, m4, m5] a.f1 b.f1) := by
      show allG l _ = _
      exact allG_on _ _ l (by omega) q
    rw [e]; exact Ev.now _
  · simp only [if_neg hs, decide_eq_false hs, Bool.false_and]; exact Ev.now _
/-- Strand i beside those before it, and so on for d strands. -/
def onB (ms : List Int) (l : List IS) : Nat → Nat → Bool
  | _, 0 => true
  | i, d + 1 => (List.range i).all (fun k => may ms (rd_T159 l (i : Int)).f1 (rd_T159 l (k : Int)).f1) && onB ms l (i + 1) d
theorem onB_iff (ms : List Int) (l : List IS) : ∀ (d i : Nat), onB ms l i d = true ↔ ∀ a, i ≤ a → a < i + d → ∀ b, b < a → may ms (rd_T159 l (a : Int)).f1 (rd_T159 l (b : Int)).f1 = true
  | 0, i => by simp only [onB, true_iff]; intro a h1 h2; omega
  | d + 1, i => by
    simp only [onB, Bool.and_eq_true, List.all_eq_true, List.mem_range, onB_iff ms l d (i + 1)]
    constructor
    · rintro ⟨h1, h2⟩ a ha hb b hba
      by_cases e : a = i
      · subst e; exact h1 b hba
      · exact h2 a (by omega) (by omega) b hba
    · intro h
      exact ⟨fun b hb => h i (by omega) (by omega) b hb, fun a h1 h2 => h a (by omega) (by omega)⟩
theorem specOn_inner {m0 m1 m2 m3 m4 m5 : Int} (hm : U8 m0 m1 m2 m3 m4 m5) (hold : Int) (l : List IS) (hl : (l.length : Int) ≤ 2097152) (ho : ∀ x ∈ l, OkS x) (i : Nat) (hi : i < l.length) (s : Int) (R : Bool)
    (hR : Ev (fun k => spec_l04On.l0 k hold l s ((i + 1 : Nat) : Int) m0 m1 m2 m3 m4 m5) R) (e : Nat) : ∀ j : Nat, j + e = i →
    Ev (fun k => spec_l04On.l1 k hold l s (i : Int) (j : Int) m0 m1 m2 m3 m4 m5) (((List.range i).drop j).all (fun k => may [m0, m1, m2, m3, m4, m5] (rd_T159 l (i : Int)).f1 (rd_T159 l (k : Int)).f1) && R) := by
  induction e with
  | zero =>
    intro j hj
    rw [List.drop_eq_nil_of_le (by simp; omega), List.all_nil, Bool.true_and]
    refine Ev.step (fun k => ?_) hR
    simp only [spec_l04On.l1]; rw [if_neg (by omega), wr (n := (i : Int) + 1) (by omega) (by omega)]; rfl
  | succ e ih =>
    intro j hj
    have hjl : j < l.length := by omega
    have o1 := ho l[i] (List.getElem_mem _)
    have o2 := ho l[j] (List.getElem_mem _)
    unfold OkS at o1 o2
    have ed : (List.range i).drop j = j :: (List.range i).drop (j + 1) := by
      rw [List.drop_eq_getElem_cons (by simp; omega)]; simp
    rw [ed, List.all_cons]
    have hmay := specMay_f m0 m1 m2 m3 m4 m5 l[i].f0 l[i].f1 l[j].f0 l[j].f1 hm o1.2 o2.2
    have ih' := ih (j + 1) (by omega)
    rw [rdIS hi, rdIS hjl]
    rw [rdIS hi] at ih'
    have c1 : (j : Int) < (i : Int) := by omega
    have c2 : (0 : Int) ≤ (i : Int) := by omega
    have c3 : (i : Int) < (l.length : Int) := by omega
    have c4 : (0 : Int) ≤ (j : Int) := by omega
    have c5 : (j : Int) < (l.length : Int) := by omega
    cases hv : may [m0, m1, m2, m3, m4, m5] l[i].f1 l[j].f1 with
    | true =>
      rw [Bool.true_and]
      refine Ev.step (fun k => ?_) ih'
      simp only [spec_l04On.l1, rdIS hi, rdIS hjl, if_pos c1, if_pos c2, if_pos c3, if_pos c4, if_pos c5, hmay, hv, Option.bind_some, if_true]
      rw [wr (n := (j : Int) + 1) (by omega) (by omega)]; rfl
    | false =>
      rw [Bool.false_and, Bool.false_and]
      refine Ev.step (f := fun _ => some false) (fun k => ?_) (Ev.now _)
      simp only [spec_l04On.l1, rdIS hi, rdIS hjl, if_pos c1, if_pos c2, if_pos c3, if_pos c4, if_pos c5, hmay, hv, Option.bind_some, Bool.false_eq_true, if_false]
theorem specOn_loop {m0 m1 m2 m3 m4 m5 : Int} (hm : U8 m0 m1 m2 m3 m4 m5) (hold : Int) (l : List IS) (hl : (l.length : Int) ≤ 2097152) (ho : ∀ x ∈ l, OkS x) (d : Nat) : ∀ (i : Nat) (s : Int), i + d = l.length → (0 ≤ s ∧ s ≤ 2000 * i) →
    Ev (fun k => spec_l04On.l0 k hold l s (i : Int) m0 m1 m2 m3 m4 m5) (onB [m0, m1, m2, m3, m4, m5] l i d && decide (s + sumL (l.drop i) ≤ hold)) := by
  induction d with
  | zero =>
    intro i s hi hs
    refine Ev.step (f := fun _ => some (decide (s ≤ hold))) (fun k => ?_) (ev_id (Ev.now _) ?_)
    · simp only [spec_l04On.l0]; rw [if_neg (by omega)]
    · rw [List.drop_eq_nil_of_le (by omega)]; simp [onB, sumL]
  | succ d ih =>
    intro i s hi hs
    have hil : i < l.length := by omega
    have h1 := ho l[i] (List.getElem_mem _)
    unfold OkS at h1
    have w1 : wrap64 l[i].f0 = l[i].f0 := wr (by omega) (by omega)
    have w2 : wrap64 (s + l[i].f0) = s + l[i].f0 := wr (by omega) (by omega)
    have ih' := ih (i + 1) (s + l[i].f0) (by omega) (by omega)
    have z := specOn_inner hm hold l hl ho i hil (s + l[i].f0) _ ih' i 0 (by omega)
    refine Ev.step (fun k => ?_) (ev_id z ?_)
    · simp only [spec_l04On.l0, rdIS hil, w1, w2]
      rw [if_pos (by omega), if_pos (by omega)]; rfl
    · have es : s + l[i].f0 + sumL (l.drop (i + 1)) = s + sumL (l.drop i) := by
        rw [List.drop_eq_getElem_cons hil]; simp only [sumL]; omega
      rw [es]; simp only [onB, List.drop_zero, Bool.and_assoc]
theorem onB_all {m0 m1 m2 m3 m4 m5 : Int} (hm : U8 m0 m1 m2 m3 m4 m5) (ok : okM m0 m1 m2 m3 m4 m5 = true) (l : List IS) (ho : ∀ x ∈ l, OkS x) :
    onB [m0, m1, m2, m3, m4, m5] l 0 l.length = l.all fun a => l.all fun b => may [m0, m1, m2, m3, m4, m5] a.f1 b.f1 := by
  rw [Bool.eq_iff_iff, onB_iff, List.all_eq_true]
  have R : ∀ (i : Nat) (h : i < l.length), rd_T159 l (i : Int) = l[i] := fun i h => rdIS h
  constructor
  · intro h x hx
    rw [List.all_eq_true]
    intro y hy
    obtain ⟨i, hi, rfl⟩ := List.mem_iff_getElem.1 hx
    obtain ⟨j, hj, rfl⟩ := List.mem_iff_getElem.1 hy
    have o1 := ho l[i] (List.getElem_mem _)
    have o2 := ho l[j] (List.getElem_mem _)
    unfold OkS at o1 o2
    rcases Nat.lt_trichotomy i j with e | e | e
    · have z := h j (by omega) (by omega) i e
      rw [R i hi, R j hj] at z
      rw [may_sym hm ok o1.2 o2.2]; exact z
    · subst e; exact may_self hm ok o1.2
    · have z := h i (by omega) (by omega) j e
      rw [R i hi, R j hj] at z; exact z
  · intro h a _ ha b hb
    have ha' : a < l.length := by omega
    have hb' : b < l.length := by omega
    rw [R a ha', R b hb']
    have z := h l[a] (List.getElem_mem _)
    rw [List.all_eq_true] at z
    exact z l[b] (List.getElem_mem _)
theorem specOn_ev {m0 m1 m2 m3 m4 m5 : Int} (hm : U8 m0 m1 m2 m3 m4 m5) (ok : okM m0 m1 m2 m3 m4 m5 = true) (hold : Int) (l : List IS) (hl : (l.length : Int) ≤ 2097152) (ho : ∀ x ∈ l, OkS x) :
    Ev (fun k => spec_l04On.f k m0 m1 m2 m3 m4 m5 hold l) (onP [m0, m1, m2, m3, m4, m5] hold l) := by
  unfold spec_l04On.f
  have z := specOn_loop hm hold l hl ho l.length 0 0 (by omega) (by omega)
  rw [onB_all hm ok l ho] at z
  simp only [List.drop_zero, Int.zero_add] at z
  refine ev_id z ?_
  unfold onP
  rw [Bool.and_comm]
theorem hold_f (h : Int) : spec_l04Hold.f h = some (decide (1 ≤ h ∧ h ≤ 2000)) := by
  unfold spec_l04Hold.f; rw [l00In_f]; rfl
/-- The code for meets, strands and numbers. -/
def codeS (m0 m1 m2 m3 m4 m5 : Int) (l : List IS) (fine : Bool) : Int :=
  if okM m0 m1 m2 m3 m4 m5 = true then (if l.all vS = true then (if (l.length : Int) > 8 then 3 else if fine = true then 0 else 2) else 1) else 1
theorem specCode_ev {m0 m1 m2 m3 m4 m5 : Int} (l : List IS) (hl : (l.length : Int) ≤ 140737488351232) (fine : Bool) :
    Ev (fun k => spec_l04Asked.f k m0 m1 m2 m3 m4 m5 l fine) (codeS m0 m1 m2 m3 m4 m5 l fine) := by
  unfold spec_l04Asked.f codeS
  simp only [specM_f, Option.bind_some]
  by_cases ok : okM m0 m1 m2 m3 m4 m5 = true
  · simp only [if_pos ok]
    refine Ev.bind (vS_ev l hl) ?_
    cases l.all vS with
    | false => exact Ev.step (f := fun _ => some 1) (fun k => by simp [spec_l04Asked.j0]) (Ev.now _)
    | true =>
      simp only [if_true, Bool.not_true]
      refine Ev.step (f := fun _ => some (if (l.length : Int) > 8 then 3 else if fine = true then 0 else 2)) (fun k => ?_) (Ev.now _)
      simp only [spec_l04Asked.j0, Bool.false_eq_true, if_false]
      by_cases h : (l.length : Int) > 8
      · simp only [if_pos h]
      · simp only [if_neg h]; cases fine <;> simp
  · simp only [if_neg ok]
    exact Ev.step (f := fun _ => some 1) (fun k => by simp [spec_l04Asked.j0]) (Ev.now _)
theorem implCode_ev {m0 m1 m2 m3 m4 m5 : Int} (hm : U8 m0 m1 m2 m3 m4 m5) (hold : Int) (l : List IS) (hl : (l.length : Int) ≤ 140737488351232) (fine : Bool) :
    Ev (fun k => impl_strandsCode.f k m0 m1 m2 m3 m4 m5 hold l fine) (codeS m0 m1 m2 m3 m4 m5 l (decide (1 ≤ hold ∧ hold ≤ 2000) && fine)) := by
  unfold impl_strandsCode.f codeS
  simp only [implM_f hm, Option.bind_some]
  by_cases ok : okM m0 m1 m2 m3 m4 m5 = true
  · simp only [if_pos ok, validS_f l hl, Option.bind_some]
    cases l.all vS with
    | false => exact Ev.step (f := fun _ => some 1) (fun k => by simp [impl_strandsCode.j0]) (Ev.now _)
    | true =>
      simp only [if_true, Bool.not_true]
      refine Ev.step (f := fun _ => some (if (l.length : Int) > 8 then 3 else if (decide (1 ≤ hold ∧ hold ≤ 2000) && fine) = true then 0 else 2)) (fun k => ?_) (Ev.now _)
      simp only [impl_strandsCode.j0, Bool.false_eq_true, if_false, within_f, Option.bind_some]
      by_cases h : (l.length : Int) > 8
      · simp only [if_pos h]
      · simp only [if_neg h]
        cases decide (1 ≤ hold ∧ hold ≤ 2000) <;> cases fine <;> simp
  · simp only [if_neg ok]
    exact Ev.step (f := fun _ => some 1) (fun k => by simp [impl_strandsCode.j0]) (Ev.now _)
theorem codeS_ok {m0 m1 m2 m3 m4 m5 : Int} {l : List IS} {fine : Bool} (h : codeS m0 m1 m2 m3 m4 m5 l fine = 0) : okM m0 m1 m2 m3 m4 m5 = true ∧ l.all vS = true ∧ (l.length : Int) ≤ 8 ∧ fine = true := by
  unfold codeS at h
  split at h
  · rename_i ok
    split at h
    · rename_i hv
      split at h
      · omega
      · split at h
        · rename_i hf
          exact ⟨ok, hv, by omega, hf⟩
        · omega
    · omega
  · omega
theorem wfi16 {a : Int} (h : (Lit.int .i16 a).wf = true) : -32768 ≤ a ∧ a ≤ 32767 := by
  simp only [Lit.wf, IntKind.min, IntKind.max, IntKind.signed, IntKind.bits, Bool.and_eq_true, decide_eq_true_eq, if_true] at h
  omega
theorem okS_of {l : List LS} (hw : ∀ x ∈ l, (Lit.int .i16 x.f0).wf = true ∧ (Lit.int .u8 x.f1).wf = true) (hv : (l.map toS).all vS = true) : ∀ x ∈ l.map toS, OkS x := by
  intro x hx
  obtain ⟨y, hy, rfl⟩ := List.mem_map.1 hx
  obtain ⟨h1, h2⟩ := hw y hy
  have h3 := wfi16 h1
  have h4 := wfu8 h2
  have h5 := vS_of (List.all_eq_true.1 hv _ hx) h3
  exact ⟨⟨h5.1, h5.2.1⟩, h4.1, h5.2.2⟩
/-- The strands of a reel. -/
def withL : List IS → List Int → Int → List IS
  | x :: l, y :: ys, r => (if y = r then [x] else []) ++ withL l ys r
  | _, _, _ => []
theorem withL_len : ∀ (l : List IS) (ys : List Int) (r : Int), (withL l ys r).length ≤ l.length
  | [], ys, r => by simp [withL]
  | x :: l, [], r => by simp [withL]
  | x :: l, y :: ys, r => by
    have := withL_len l ys r
    simp only [withL]
    split <;> simp <;> omega
theorem withL_mem : ∀ (l : List IS) (ys : List Int) (r : Int), ∀ x ∈ withL l ys r, x ∈ l
  | [], ys, r => by simp [withL]
  | x :: l, [], r => by simp [withL]
  | x :: l, y :: ys, r => by
    intro z hz
    simp only [withL, List.mem_append] at hz
    rcases hz with hz | hz
    · split at hz
      · rw [List.mem_singleton.1 hz]; simp
      · simp at hz
    · exact List.mem_cons_of_mem _ (withL_mem l ys r z hz)
theorem withL_nil (l : List IS) (r : Int) : withL l [] r = [] := by cases l <;> rfl
theorem specWith_loop (l : List IS) (ys : List Int) (r : Int) (hl : (l.length : Int) ≤ 2097152) (hy : ys.length ≤ l.length) (d : Nat) : ∀ (i : Nat) (out : List IS), i + d = ys.length → out.length ≤ i →
    Ev (fun k => spec_l04With.l0 k l ys r out (i : Int)) (out ++ withL (l.drop i) (ys.drop i) r) := by
  induction d with
  | zero =>
    intro i out hi ho
    refine Ev.step (f := fun _ => some out) (fun k => ?_) (ev_id (Ev.now _) ?_)
    · simp only [spec_l04With.l0]; rw [if_neg (by omega)]
    · rw [show ys.drop i = [] from List.drop_eq_nil_of_le (by omega), withL_nil]; simp
  | succ d ih =>
    intro i out hi ho
    have hi1 : i < ys.length := by omega
    have hi2 : i < l.length := by omega
    rw [List.drop_eq_getElem_cons hi1, List.drop_eq_getElem_cons hi2]
    simp only [withL]
    by_cases h : ys[i] = r
    · refine Ev.step (fun k => ?_) (ev_id (ih (i + 1) (out ++ [l[i]]) (by omega) (by simp; omega)) ?_)
      · simp only [spec_l04With.l0, rd_lt hi1, rdIS hi2]
        rw [if_pos (by omega), if_pos (by omega), if_pos h, if_pos (by omega), if_pos (by omega), wr (n := (i : Int) + 1) (by omega) (by omega)]; rfl
      · rw [if_pos h]; simp
    · refine Ev.step (fun k => ?_) (ev_id (ih (i + 1) out (by omega) (by omega)) ?_)
      · simp only [spec_l04With.l0, rd_lt hi1, rdIS hi2]
        rw [if_pos (by omega), if_pos (by omega), if_neg h, wr (n := (i : Int) + 1) (by omega) (by omega)]; rfl
      · rw [if_neg h]; simp
theorem specWith_ev (l : List IS) (ys : List Int) (r : Int) (hl : (l.length : Int) ≤ 2097152) (hy : ys.length ≤ l.length) : Ev (fun k => spec_l04With.f k l ys r) (withL l ys r) := by
  unfold spec_l04With.f
  have := specWith_loop l ys r hl hy ys.length 0 [] (by omega) (by simp)
  simpa using this
theorem withL_snoc : ∀ (l : List IS) (ys : List Int) (y r : Int) (h : ys.length < l.length), withL l (ys ++ [y]) r = withL l ys r ++ (if y = r then [l[ys.length]] else [])
  | [], ys, y, r, h => by simp at h
  | x :: l, [], y, r, h => by
    simp only [List.nil_append, withL, withL_nil, List.append_nil, List.length_nil, List.getElem_cons_zero]
  | x :: l, z :: ys, y, r, h => by
    have hl : ys.length < l.length := by simpa using h
    have := withL_snoc l ys y r hl
    simp only [List.cons_append, withL, this, List.append_assoc, List.length_cons, List.getElem_cons_succ]
theorem max_f (a b : Int) : spec_l00Max.f a b = some (if a > b then a else b) := by
  unfold spec_l00Max.f; split <;> rfl
/-- The test of single strands ends, whatever the strands are. -/
theorem alone_any (hold : Int) (l : List IS) (hl : (l.length : Int) ≤ 2097152) (ho : ∀ x ∈ l, -32768 ≤ x.f0 ∧ x.f0 ≤ 32767) (d : Nat) : ∀ (i : Nat), i + d = l.length → Ev (fun k => spec_l04Alone.l0 k hold l (i : Int)) ((l.drop i).all fun x => decide (x.f0 ≤ hold)) := by
  induction d with
  | zero =>
    intro i hi
    refine Ev.step (f := fun _ => some true) (fun k => ?_) (ev_id (Ev.now _) ?_)
    · simp only [spec_l04Alone.l0]; rw [if_neg (by omega)]
    · rw [List.drop_eq_nil_of_le (by omega)]; rfl
  | succ d ih =>
    intro i hi
    have hil : i < l.length := by omega
    have o := ho l[i] (List.getElem_mem _)
    have w := wr (n := l[i].f0) (by omega) (by omega)
    rw [List.drop_eq_getElem_cons hil, List.all_cons]
    by_cases h : l[i].f0 ≤ hold
    · rw [decide_eq_true h, Bool.true_and]
      refine Ev.step (fun k => ?_) (ih (i + 1) (by omega))
      simp only [spec_l04Alone.l0, rdIS hil, w]
      rw [if_pos (by omega), if_pos (by omega), if_neg (by omega), wr (n := (i : Int) + 1) (by omega) (by omega)]; rfl
    · rw [decide_eq_false h, Bool.false_and]
      refine Ev.step (f := fun _ => some false) (fun k => ?_) (Ev.now _)
      simp only [spec_l04Alone.l0, rdIS hil, w]
      rw [if_pos (by omega), if_pos (by omega), if_pos (by omega)]
/-- A strand alone may be on a reel that holds it. -/
theorem onP_one {m0 m1 m2 m3 m4 m5 : Int} (hm : U8 m0 m1 m2 m3 m4 m5) (ok : okM m0 m1 m2 m3 m4 m5 = true) (hold : Int) (s : IS) (ho : OkS s) (hs : s.f0 ≤ hold) : onP [m0, m1, m2, m3, m4, m5] hold ([] ++ [s]) = true := by
  have z := onB_all hm ok [s] (by intro x hx; rw [List.mem_singleton.1 hx]; exact ho)
  have e : onB [m0, m1, m2, m3, m4, m5] [s] 0 [s].length = true := by simp [onB]
  rw [e] at z
  unfold onP
  rw [List.nil_append, ← z, Bool.and_true]
  exact decide_eq_true (by simp only [sumL]; omega)
section
variable {m0 m1 m2 m3 m4 m5 : Int} (hm : U8 m0 m1 m2 m3 m4 m5) (ok : okM m0 m1 m2 m3 m4 m5 = true) (hold : Int) (l : List IS) (hl : l.length ≤ 8) (ho : ∀ x ∈ l, OkS x) (hal : ∀ x ∈ l, x.f0 ≤ hold) (most budget : Int) (hmo : 0 ≤ most ∧ most ≤ 9) (hbu : budget ≤ 20000)
/-- Both searches come to the same end. -/
def TwinW (m0 m1 m2 m3 m4 m5 hold : Int) (l : List IS) (most budget : Int) (rs : List (List IS)) (ys : List Int) (c : Prop) (g : Nat → Option (Int × List Int × Int)) (f : Nat → Option (Bool × Bool × List (List IS) × List Int × Int)) : Prop :=
  ∃ (q1 : Int) (q2 : List Int) (q3 : Int), Ev g (q1, q2, q3) ∧ 0 ≤ q3 ∧ q3 ≤ budget ∧
    ((q1 = 1 ∧ q2.length ≤ 8 ∧ ∃ rs', Ev f (true, true, rs', q2, q3)) ∨ (q1 = -1 ∧ ∃ rs' ys' t', Ev f (false, false, rs', ys', t')) ∨ (q1 = 0 ∧ q2 = ys ∧ (c → most < l.length) ∧ Ev f (false, true, rs, ys, q3)))
include hm ok hl ho hal hmo hbu
set_option maxHeartbeats 2000000 in
theorem wind_same (d : Nat) : ∀ (i : Nat) (rs : List (List IS)) (ys : List Int) (tries : Int), i + d = l.length → ys.length = i → rs.length ≤ i → (∀ k (h : k < rs.length), rs[k] = withL l ys (k : Int)) → (∀ k : Nat, rs.length ≤ k → withL l ys (k : Int) = []) → 0 ≤ tries → tries ≤ budget →
    TwinW m0 m1 m2 m3 m4 m5 hold l most budget rs ys True (fun k => spec_l04Try.f m0 m1 m2 m3 m4 m5 hold l budget k (rs.length : Int) most ys tries) (fun k => impl_winder_wind.f m0 m1 m2 m3 m4 m5 hold l most budget k i rs ys tries) := by
  induction d with
  | zero =>
    intro i rs ys tries hi hys hrs hinv hnil ht0 ht1
    have e1 : ys.length = l.length := by omega
    have e2 : i = l.length := by omega
    refine ⟨1, ys, tries, Ev.step (f := fun _ => some (1, ys, tries)) (fun k => ?_) (Ev.now _), ht0, ht1, Or.inl ⟨rfl, by omega, rs, Ev.step (f := fun _ => some (true, true, rs, ys, tries)) (fun k => ?_) (Ev.now _)⟩⟩
    · rw [spec_l04Try.f, if_pos e1]
    · rw [impl_winder_wind.f, if_pos e2]
  | succ d ih =>
    intro i rs ys tries hi hys hrs hinv hnil ht0 ht1
    have hil : i < l.length := by omega
    have n1 : ¬ ys.length = l.length := by omega
    have n2 : ¬ i = l.length := by omega
    have n3 : i < l.length ∧ rs.length ≤ 1000 := by omega
    obtain ⟨s, hs⟩ : ∃ s, l[i] = s := ⟨_, rfl⟩
    have es : (rd_T159 l (i : Int)) = s := by rw [rdIS hil, hs]
    have os : OkS s := by rw [← hs]; exact ho _ (List.getElem_mem _)
    have oh : s.f0 ≤ hold := by rw [← hs]; exact hal _ (List.getElem_mem _)
    have snoc : ∀ (J : Nat) (r : Int), withL l (ys ++ [(J : Int)]) r = withL l ys r ++ (if (J : Int) = r then [s] else []) := by as_aux_lemma =>
      intro J r
      have := withL_snoc l ys (J : Int) r (by omega)
      simp only [hys, hs] at this; exact this
    have loop : ∀ (e x : Nat) (tries : Int), x + e = rs.length + 1 → 0 ≤ tries → tries ≤ budget →
        TwinW m0 m1 m2 m3 m4 m5 hold l most budget rs ys (x ≤ rs.length) (fun k => spec_l04Try.l0 m0 m1 m2 m3 m4 m5 hold l budget k (rs.length : Int) most i (x : Int) ys tries) (fun k => impl_winder_wind.l0 m0 m1 m2 m3 m4 m5 hold l most budget k i (mn ((rs.length : Int) + 1) most) x rs ys tries) := by as_aux_lemma =>
      intro e
      induction e with
      | zero =>
        intro x tries hx ht0 ht1
        have c1 : ¬ ((x : Int) ≤ (rs.length : Int) ∧ (x : Int) < most) := by omega
        have c2 : ¬ ((x : Int) < mn ((rs.length : Int) + 1) most) := by unfold mn; split <;> omega
        refine ⟨0, ys, tries, Ev.step (f := fun _ => some (0, ys, tries)) (fun k => ?_) (Ev.now _), ht0, ht1, Or.inr (Or.inr ⟨rfl, rfl, fun z => by omega, Ev.step (f := fun _ => some (false, true, rs, ys, tries)) (fun k => ?_) (Ev.now _)⟩)⟩
        · rw [spec_l04Try.l0, if_neg c1]
        · rw [impl_winder_wind.l0, if_neg c2]
      | succ e ihe =>
        intro x tries hx ht0 ht1
        by_cases hxm : (x : Int) < most
        · have c1 : (x : Int) ≤ (rs.length : Int) ∧ (x : Int) < most := by omega
          have c2 : (x : Int) < mn ((rs.length : Int) + 1) most := by unfold mn; split <;> omega
          have c3 : i < l.length ∧ ys.length ≤ 1000 ∧ l.length ≤ 1000 := by omega
          have hrow : rs.getD x [] = withL l ys (x : Int) := by as_aux_lemma =>
            by_cases h : x < rs.length
            · rw [List.getD_eq_getElem?_getD, List.getElem?_eq_getElem h]; exact hinv x h
            · rw [hnil x (by omega), List.getD_eq_getElem?_getD, List.getElem?_eq_none (by omega)]; rfl
          obtain ⟨row, hr⟩ : ∃ r, rs.getD x [] = r := ⟨_, rfl⟩
          have hw := specWith_ev l ys (x : Int) (by omega) (by omega)
          rw [← hrow, hr] at hw
          have hrl : row.length ≤ 8 := by rw [← hr, hrow]; exact Nat.le_trans (withL_len l ys _) hl
          have hmem : ∀ z ∈ row ++ [s], OkS z := by
            intro z hz
            rcases List.mem_append.1 hz with hz | hz
            · rw [← hr, hrow] at hz; exact ho z (withL_mem l ys _ z hz)
            · rw [List.mem_singleton.1 hz]; exact os
          have c4 : row.length ≤ 1000 := by omega
          have c5 : i < l.length ∧ l.length ≤ 1000 ∧ x ≤ rs.length ∧ rs.length ≤ 1000 ∧ ys.length ≤ 1000 ∧ row.length ≤ 1000 := by omega
          have wx : ∀ _ : Unit, wrap64 ((x : Int) + 1) = ((x + 1 : Nat) : Int) := fun _ => by rw [wr (by omega) (by omega)]; omega
          have wt : ∀ _ : Unit, wrap64 (tries + 1) = tries + 1 := fun _ => wr (by omega) (by omega)
          have hsp := specOn_ev hm ok hold (row ++ [s]) (by simp; omega) hmem
          have him := implOn_ev hm ok hold (row ++ [s]) (by simp; omega) hmem
          -- the next reel, with the tries behind it
          have next : ∀ t, 0 ≤ t → t ≤ budget → (x ≤ rs.length → most < l.length) ∨ x < rs.length → TwinW m0 m1 m2 m3 m4 m5 hold l most budget rs ys (x ≤ rs.length) (fun k => spec_l04Try.l0 m0 m1 m2 m3 m4 m5 hold l budget k (rs.length : Int) most i ((x + 1 : Nat) : Int) ys t) (fun k => impl_winder_wind.l0 m0 m1 m2 m3 m4 m5 hold l most budget k i (mn ((rs.length : Int) + 1) most) (x + 1) rs ys t) := by as_aux_lemma =>
            intro t h0 h1 hc
            obtain ⟨q1, q2, q3, g, a, b, z⟩ := ihe (x + 1) t (by omega) h0 h1
            refine ⟨q1, q2, q3, g, a, b, z.imp id (fun z => z.imp id (fun z => ⟨z.1, z.2.1, fun hx => ?_, z.2.2.2⟩))⟩
            rcases hc with hc | hc
            · exact hc hx
            · exact z.2.2.1 (by omega)
          -- the step behind the test
          obtain ⟨rs2, hrs2⟩ : ∃ r, (if decide (x = rs.length) = true then rs ++ [[]] else rs).set x (row ++ [s]) = r := ⟨_, rfl⟩
          have len2 : ∀ _ : Unit, (x = rs.length → rs2.length = rs.length + 1) ∧ (x ≠ rs.length → rs2.length = rs.length) := fun _ => by
            rw [← hrs2, List.length_set]
            by_cases h : x = rs.length <;> simp [h]
          have len3 : rs.length ≤ rs2.length ∧ rs2.length ≤ rs.length + 1 ∧ x < rs2.length := by as_aux_lemma =>
            by_cases h : x = rs.length
            · have := (len2 ()).1 h; omega
            · have := (len2 ()).2 h; omega
          have len4 : rs2.length ≤ i + 1 := by omega
          obtain ⟨ln1, ln2, hx2⟩ := len3
          have row2 : rs2.getD x [] = row ++ [s] := by as_aux_lemma =>
            rw [List.getD_eq_getElem?_getD, List.getElem?_eq_getElem hx2]
            subst hrs2; simp
          have inv2 : ∀ k (h : k < rs2.length), rs2[k] = withL l (ys ++ [(x : Int)]) (k : Int) := by as_aux_lemma =>
            intro k h
            rw [snoc]
            by_cases e : x = k
            · subst e
              rw [if_pos rfl, ← hrow, hr]
              rw [List.getD_eq_getElem?_getD, List.getElem?_eq_getElem h] at row2
              exact row2
            · rw [if_neg (by omega), List.append_nil]
              have hk : k < rs.length := by
                by_cases z : x = rs.length
                · have := (len2 ()).1 z; omega
                · have := (len2 ()).2 z; omega
              rw [← hinv k hk]
              subst hrs2
              rw [List.getElem_set_ne e]
              split
              · exact List.getElem_append_left hk
              · rfl
          have nil2 : ∀ k : Nat, rs2.length ≤ k → withL l (ys ++ [(x : Int)]) (k : Int) = [] := by as_aux_lemma =>
            intro k h
            have hk1 : ¬ ((x : Int) = (k : Int)) := by omega
            have hk2 : rs.length ≤ k := by omega
            rw [snoc, if_neg hk1, List.append_nil]
            exact hnil k hk2
          have back : (if decide (x = rs.length) = true then (rs2.set x ((rs2.getD x []).take ((rs2.getD x []).length - 1))).take x else rs2.set x ((rs2.getD x []).take ((rs2.getD x []).length - 1))) = rs := by as_aux_lemma =>
            have e1 : (rs2.getD x []).take ((rs2.getD x []).length - 1) = row := by rw [row2]; simp
            rw [e1, ← hrs2, List.set_set]
            by_cases h : x = rs.length
            · rw [if_pos (decide_eq_true h), if_pos (decide_eq_true h)]
              subst h
              rw [List.set_append_right _ _ (Nat.le_refl _)]
              simp
            · rw [if_neg (by simpa using h), if_neg (by simpa using h)]
              have hxl : x < rs.length := by omega
              rw [← hr, List.getD_eq_getElem?_getD, List.getElem?_eq_getElem hxl]
              simp
          have take2 : (ys ++ [(x : Int)]).take i = ys := by rw [List.take_append_of_le_length (by omega), List.take_of_length_le (by omega)]
          have umax : ∀ _ : Unit, (if (rs.length : Int) > ((x + 1 : Nat) : Int) then (rs.length : Int) else ((x + 1 : Nat) : Int)) = (rs2.length : Int) := fun _ => by
            by_cases h : x = rs.length
            · have := (len2 ()).1 h; rw [if_neg (by omega)]; omega
            · have := (len2 ()).2 h; split <;> omega
          have step : TwinW m0 m1 m2 m3 m4 m5 hold l most budget rs ys (x ≤ rs.length)
              (fun k => if tries = budget then some (-1, ys, tries) else (spec_l00Max.f (rs.length : Int) (wrap64 ((x : Int) + 1))).bind fun u => (spec_l04Try.f m0 m1 m2 m3 m4 m5 hold l budget k u most (ys ++ [(x : Int)]) (wrap64 (tries + 1))).bind fun r => if r.1 = 0 then (if i ≤ r.2.1.length then spec_l04Try.l0 m0 m1 m2 m3 m4 m5 hold l budget k (rs.length : Int) most i (wrap64 ((x : Int) + 1)) (r.2.1.take i) r.2.2 else none) else some r)
              (fun k => impl_winder_wind.st m0 m1 m2 m3 m4 m5 hold l most budget k i (mn ((rs.length : Int) + 1) most) x (decide (x = rs.length)) rs ys tries) := by as_aux_lemma =>
            by_cases hb : tries = budget
            · have hb2 : tries + 1 > budget := by omega
              refine ⟨-1, ys, tries, ?_, ht0, ht1, Or.inr (Or.inl ⟨rfl, rs, ys, tries + 1, Ev.step (f := fun _ => some (false, false, rs, ys, tries + 1)) (fun k => ?_) (Ev.now _)⟩)⟩
              · simp only [if_pos hb]; exact Ev.now _
              · rw [impl_winder_wind.st, wt (), if_pos hb2]
            · have hb2 : ¬ tries + 1 > budget := by omega
              obtain ⟨q1, q2, q3, g, a, b, z⟩ := ih (i + 1) rs2 (ys ++ [(x : Int)]) (tries + 1) (by omega) (by simp; omega) len4 inv2 nil2 (by omega) (by omega)
              have F : ∀ k, impl_winder_wind.st m0 m1 m2 m3 m4 m5 hold l most budget (k + 1) i (mn ((rs.length : Int) + 1) most) x (decide (x = rs.length)) rs ys tries = (impl_winder_wind.f m0 m1 m2 m3 m4 m5 hold l most budget k (i + 1) rs2 (ys ++ [(x : Int)]) (tries + 1)).bind fun r =>
                  if r.1 = true ∨ r.2.1 = false then some r
                  else if i ≤ r.2.2.2.1.length ∧ x < r.2.2.1.length ∧ 0 < (r.2.2.1.getD x []).length ∧ (r.2.2.1.getD x []).length ≤ 2000 then
                    impl_winder_wind.l0 m0 m1 m2 m3 m4 m5 hold l most budget k i (mn ((rs.length : Int) + 1) most) (x + 1) (if decide (x = rs.length) = true then (r.2.2.1.set x ((r.2.2.1.getD x []).take ((r.2.2.1.getD x []).length - 1))).take x else r.2.2.1.set x ((r.2.2.1.getD x []).take ((r.2.2.1.getD x []).length - 1))) (r.2.2.2.1.take i) r.2.2.2.2
                  else none := by
                intro k
                rw [impl_winder_wind.st, wt (), if_neg hb2]
                have eg : (if decide (x = rs.length) = true then rs ++ [[]] else rs).getD x [] = row := by
                  rw [← hr]
                  by_cases h : x = rs.length
                  · rw [if_pos (decide_eq_true h), h]
                    simp [List.getD_eq_getElem?_getD]
                  · rw [if_neg (by simpa using h)]
                rw [eg, es, hrs2]
              simp only [if_neg hb, wx (), wt (), max_f, umax (), Option.bind_some]
              rcases z with ⟨rfl, hq, rs', hf⟩ | ⟨rfl, rs', ys', t', hf⟩ | ⟨rfl, rfl, hc, hf⟩
              · refine ⟨1, q2, q3, Ev.bind g ?_, a, b, Or.inl ⟨rfl, hq, rs', Ev.step F (Ev.bind hf ?_)⟩⟩
                · simp only [show ¬ (1 : Int) = 0 from by omega, if_false]; exact Ev.now _
                · simp only [true_or, if_true]; exact Ev.now _
              · refine ⟨-1, q2, q3, Ev.bind g ?_, a, b, Or.inr (Or.inl ⟨rfl, rs', ys', t', Ev.step F (Ev.bind hf ?_)⟩)⟩
                · simp only [show ¬ (-1 : Int) = 0 from by omega, if_false]; exact Ev.now _
                · simp only [or_true, if_true]; exact Ev.now _
              · obtain ⟨p1, p2, p3, g', a', b', z'⟩ := next q3 a b (Or.inl fun _ => hc trivial)
                have k1 : i ≤ (ys ++ [(x : Int)]).length := by simp; omega
                have k2 : i ≤ (ys ++ [(x : Int)]).length ∧ x < rs2.length ∧ 0 < (rs2.getD x []).length ∧ (rs2.getD x []).length ≤ 2000 := by
                  refine ⟨k1, hx2, ?_, ?_⟩
                  · rw [row2]; simp
                  · rw [row2]; simp; omega
                have Gs : ∀ R, Ev (fun k => spec_l04Try.l0 m0 m1 m2 m3 m4 m5 hold l budget k (rs.length : Int) most i ((x + 1 : Nat) : Int) ys q3) R → Ev (fun k => (spec_l04Try.f m0 m1 m2 m3 m4 m5 hold l budget k (rs2.length : Int) most (ys ++ [(x : Int)]) (tries + 1)).bind fun r => if r.1 = 0 then (if i ≤ r.2.1.length then spec_l04Try.l0 m0 m1 m2 m3 m4 m5 hold l budget k (rs.length : Int) most i ((x + 1 : Nat) : Int) (r.2.1.take i) r.2.2 else none) else some r) R := by as_aux_lemma =>
                  intro R hR
                  refine Ev.bind g ?_
                  simp only [if_true, if_pos k1, take2]
                  exact hR
                have Gi : ∀ R, Ev (fun k => impl_winder_wind.l0 m0 m1 m2 m3 m4 m5 hold l most budget k i (mn ((rs.length : Int) + 1) most) (x + 1) rs ys q3) R → Ev (fun k => impl_winder_wind.st m0 m1 m2 m3 m4 m5 hold l most budget k i (mn ((rs.length : Int) + 1) most) x (decide (x = rs.length)) rs ys tries) R := by as_aux_lemma =>
                  intro R hR
                  refine Ev.step F (Ev.bind hf ?_)
                  have nn : ¬ ((false : Bool) = true ∨ (true : Bool) = false) := by simp
                  simp only [if_neg nn, if_pos k2, back, take2]
                  exact hR
                exact ⟨p1, p2, p3, Gs _ g', a', b', z'.imp (fun ⟨u, v, rs', w⟩ => ⟨u, v, rs', Gi _ w⟩) (fun z' => z'.imp (fun ⟨u, rs', ys', t', w⟩ => ⟨u, rs', ys', t', Gi _ w⟩) (fun ⟨u, v, c, w⟩ => ⟨u, v, c, Gi _ w⟩))⟩
          -- the reference's round, and the code's
          have S1 : onP [m0, m1, m2, m3, m4, m5] hold (row ++ [s]) = true → ∀ R, Ev (fun k => if tries = budget then some (-1, ys, tries) else (spec_l00Max.f (rs.length : Int) (wrap64 ((x : Int) + 1))).bind fun u => (spec_l04Try.f m0 m1 m2 m3 m4 m5 hold l budget k u most (ys ++ [(x : Int)]) (wrap64 (tries + 1))).bind fun r => if r.1 = 0 then (if i ≤ r.2.1.length then spec_l04Try.l0 m0 m1 m2 m3 m4 m5 hold l budget k (rs.length : Int) most i (wrap64 ((x : Int) + 1)) (r.2.1.take i) r.2.2 else none) else some r) R → Ev (fun k => spec_l04Try.l0 m0 m1 m2 m3 m4 m5 hold l budget k (rs.length : Int) most i (x : Int) ys tries) R := by as_aux_lemma =>
            intro hp R hR
            refine Ev.step (fun k => by rw [spec_l04Try.l0, if_pos c1, if_pos c3, es]) (Ev.bind hw ?_)
            simp only [if_pos c4]
            refine Ev.bind hsp ?_
            have nn : ¬ (onP [m0, m1, m2, m3, m4, m5] hold (row ++ [s]) = false) := by rw [hp]; decide
            simp only [if_neg nn]
            exact hR
          have S0 : onP [m0, m1, m2, m3, m4, m5] hold (row ++ [s]) = false → ∀ R, Ev (fun k => spec_l04Try.l0 m0 m1 m2 m3 m4 m5 hold l budget k (rs.length : Int) most i ((x + 1 : Nat) : Int) ys tries) R → Ev (fun k => spec_l04Try.l0 m0 m1 m2 m3 m4 m5 hold l budget k (rs.length : Int) most i (x : Int) ys tries) R := by as_aux_lemma =>
            intro hp R hR
            refine Ev.step (fun k => by rw [spec_l04Try.l0, if_pos c1, if_pos c3, es]) (Ev.bind hw ?_)
            simp only [if_pos c4]
            refine Ev.bind hsp ?_
            simp only [if_pos hp, wx ()]
            exact hR
          have I1 : x = rs.length ∨ onP [m0, m1, m2, m3, m4, m5] hold (row ++ [s]) = true → ∀ R, Ev (fun k => impl_winder_wind.st m0 m1 m2 m3 m4 m5 hold l most budget k i (mn ((rs.length : Int) + 1) most) x (decide (x = rs.length)) rs ys tries) R → Ev (fun k => impl_winder_wind.l0 m0 m1 m2 m3 m4 m5 hold l most budget k i (mn ((rs.length : Int) + 1) most) x rs ys tries) R := by as_aux_lemma =>
            intro hp R hR
            by_cases hxl : x = rs.length
            · refine Ev.step (fun k => ?_) hR
              rw [impl_winder_wind.l0, if_pos c2, hr, if_pos c5, if_pos hxl, decide_eq_true hxl]
            · have hp2 := hp.resolve_left hxl
              refine Ev.step (fun k => by rw [impl_winder_wind.l0, if_pos c2, hr, if_pos c5, if_neg hxl, es]) (Ev.bind him ?_)
              simp only [if_pos hp2]
              rw [decide_eq_false hxl] at hR
              exact hR
          have I0 : ¬ x = rs.length → onP [m0, m1, m2, m3, m4, m5] hold (row ++ [s]) = false → ∀ R, Ev (fun k => impl_winder_wind.l0 m0 m1 m2 m3 m4 m5 hold l most budget k i (mn ((rs.length : Int) + 1) most) (x + 1) rs ys tries) R → Ev (fun k => impl_winder_wind.l0 m0 m1 m2 m3 m4 m5 hold l most budget k i (mn ((rs.length : Int) + 1) most) x rs ys tries) R := by as_aux_lemma =>
            intro hxl hp R hR
            refine Ev.step (fun k => by rw [impl_winder_wind.l0, if_pos c2, hr, if_pos c5, if_neg hxl, es]) (Ev.bind him ?_)
            have nn : ¬ (onP [m0, m1, m2, m3, m4, m5] hold (row ++ [s]) = true) := by rw [hp]; decide
            simp only [if_neg nn]
            exact hR
          have on1 : x = rs.length → onP [m0, m1, m2, m3, m4, m5] hold (row ++ [s]) = true := by as_aux_lemma =>
            intro hxl
            have hn : row = [] := by rw [← hr, hrow]; exact hnil x (by omega)
            rw [hn]; exact onP_one hm ok hold s os oh
          by_cases hgo : onP [m0, m1, m2, m3, m4, m5] hold (row ++ [s]) = true
          · obtain ⟨q1, q2, q3, g, a, b, z⟩ := step
            have g2 := S1 hgo _ g
            have Iz := I1 (Or.inr hgo)
            exact ⟨q1, q2, q3, g2, a, b, z.imp (fun ⟨u, v, rs', w⟩ => ⟨u, v, rs', Iz _ w⟩) (fun z' => z'.imp (fun ⟨u, rs', ys', t', w⟩ => ⟨u, rs', ys', t', Iz _ w⟩) (fun ⟨u, v, c, w⟩ => ⟨u, v, c, Iz _ w⟩))⟩
          · have hxl : ¬ x = rs.length := fun z => hgo (on1 z)
            rw [Bool.not_eq_true] at hgo
            obtain ⟨q1, q2, q3, g, a, b, z⟩ := next tries ht0 ht1 (Or.inr (by omega))
            have g2 := S0 hgo _ g
            have Iz := I0 hxl hgo
            exact ⟨q1, q2, q3, g2, a, b, z.imp (fun ⟨u, v, rs', w⟩ => ⟨u, v, rs', Iz _ w⟩) (fun z' => z'.imp (fun ⟨u, rs', ys', t', w⟩ => ⟨u, rs', ys', t', Iz _ w⟩) (fun ⟨u, v, c, w⟩ => ⟨u, v, c, Iz _ w⟩))⟩
        · have c1 : ¬ ((x : Int) ≤ (rs.length : Int) ∧ (x : Int) < most) := by omega
          have c2 : ¬ ((x : Int) < mn ((rs.length : Int) + 1) most) := by unfold mn; split <;> omega
          refine ⟨0, ys, tries, Ev.step (f := fun _ => some (0, ys, tries)) (fun k => ?_) (Ev.now _), ht0, ht1, Or.inr (Or.inr ⟨rfl, rfl, fun z => by omega, Ev.step (f := fun _ => some (false, true, rs, ys, tries)) (fun k => ?_) (Ev.now _)⟩)⟩
          · rw [spec_l04Try.l0, if_neg c1]
          · rw [impl_winder_wind.l0, if_neg c2]
    obtain ⟨q1, q2, q3, g, a, b, z⟩ := loop (rs.length + 1) 0 tries (by omega) ht0 ht1
    have Gs : ∀ R, Ev (fun k => spec_l04Try.l0 m0 m1 m2 m3 m4 m5 hold l budget k (rs.length : Int) most i ((0 : Nat) : Int) ys tries) R → Ev (fun k => spec_l04Try.f m0 m1 m2 m3 m4 m5 hold l budget k (rs.length : Int) most ys tries) R := by as_aux_lemma =>
      intro R hR
      refine Ev.step (fun k => ?_) hR
      rw [spec_l04Try.f, if_neg n1, hys]; rfl
    have Gi : ∀ R, Ev (fun k => impl_winder_wind.l0 m0 m1 m2 m3 m4 m5 hold l most budget k i (mn ((rs.length : Int) + 1) most) 0 rs ys tries) R → Ev (fun k => impl_winder_wind.f m0 m1 m2 m3 m4 m5 hold l most budget k i rs ys tries) R := by as_aux_lemma =>
      intro R hR
      refine Ev.step (fun k => ?_) hR
      rw [impl_winder_wind.f, if_neg n2, if_pos n3]
    exact ⟨q1, q2, q3, Gs _ g, a, b, z.imp (fun ⟨u, v, rs', w⟩ => ⟨u, v, rs', Gi _ w⟩) (fun z' => z'.imp (fun ⟨u, rs', ys', t', w⟩ => ⟨u, rs', ys', t', Gi _ w⟩) (fun ⟨u, v, c, w⟩ => ⟨u, v, fun _ => c (by omega), Gi _ w⟩))⟩
end
section
variable {m0 m1 m2 m3 m4 m5 : Int} (hm : U8 m0 m1 m2 m3 m4 m5) (ok : okM m0 m1 m2 m3 m4 m5 = true) (hold : Int) (l : List IS) (hl : l.length ≤ 8) (ho : ∀ x ∈ l, OkS x) (hal : ∀ x ∈ l, x.f0 ≤ hold) (budget : Int) (hbu : budget ≤ 20000)
include hm ok hl ho hal hbu
theorem most_same (e : Nat) : ∀ (most : Nat) (tries : Int), most + e = l.length → 0 ≤ tries → tries ≤ budget →
    ∃ r : List Int × Int × Int, Ev (fun k => spec_FewestReels.l0 m0 m1 m2 m3 m4 m5 hold l budget k (most : Int) [] tries) r ∧ Ev (fun k => impl_FewestReels.l0 m0 m1 m2 m3 m4 m5 hold l budget k (most : Int) tries) r ∧ r.1.length ≤ 8 := by
  induction e with
  | zero =>
    intro most tries he h0 h1
    obtain ⟨q1, q2, q3, g, a, b, z⟩ := wind_same hm ok hold l hl ho hal (most : Int) budget (by omega) hbu l.length 0 [] [] tries (by omega) rfl (by simp) (by simp) (fun k _ => withL_nil l _) h0 h1
    replace g : Ev (fun k => spec_l04Try.f m0 m1 m2 m3 m4 m5 hold l budget k 0 (most : Int) [] tries) (q1, q2, q3) := g
    rcases z with ⟨rfl, hq, rs', hf⟩ | ⟨rfl, rs', ys', t', hf⟩ | ⟨rfl, rfl, hc, hf⟩
    · refine ⟨(q2, q3, 0), Ev.step (fun k => by rw [spec_FewestReels.l0]) (Ev.bind g ?_), Ev.step (fun k => by rw [impl_FewestReels.l0]) (Ev.bind hf ?_), hq⟩
      · simp only [if_true]; exact Ev.now _
      · simp only [Bool.true_eq_false, if_false, if_true]; exact Ev.now _
    · refine ⟨([], 0, 7), Ev.step (fun k => by rw [spec_FewestReels.l0]) (Ev.bind g ?_), Ev.step (fun k => by rw [impl_FewestReels.l0]) (Ev.bind hf ?_), by simp⟩
      · simp only [show ¬ (-1 : Int) = 1 from by omega, if_false, if_true]; exact Ev.now _
      · simp only [if_true]; exact Ev.now _
    · have := hc trivial
      omega
  | succ e ih =>
    intro most tries he h0 h1
    obtain ⟨q1, q2, q3, g, a, b, z⟩ := wind_same hm ok hold l hl ho hal (most : Int) budget (by omega) hbu l.length 0 [] [] tries (by omega) rfl (by simp) (by simp) (fun k _ => withL_nil l _) h0 h1
    replace g : Ev (fun k => spec_l04Try.f m0 m1 m2 m3 m4 m5 hold l budget k 0 (most : Int) [] tries) (q1, q2, q3) := g
    rcases z with ⟨rfl, hq, rs', hf⟩ | ⟨rfl, rs', ys', t', hf⟩ | ⟨rfl, rfl, hc, hf⟩
    · refine ⟨(q2, q3, 0), Ev.step (fun k => by rw [spec_FewestReels.l0]) (Ev.bind g ?_), Ev.step (fun k => by rw [impl_FewestReels.l0]) (Ev.bind hf ?_), hq⟩
      · simp only [if_true]; exact Ev.now _
      · simp only [Bool.true_eq_false, if_false, if_true]; exact Ev.now _
    · refine ⟨([], 0, 7), Ev.step (fun k => by rw [spec_FewestReels.l0]) (Ev.bind g ?_), Ev.step (fun k => by rw [impl_FewestReels.l0]) (Ev.bind hf ?_), by simp⟩
      · simp only [show ¬ (-1 : Int) = 1 from by omega, if_false, if_true]; exact Ev.now _
      · simp only [if_true]; exact Ev.now _
    · obtain ⟨r, e1, e2, e3⟩ := ih (most + 1) q3 (by omega) a b
      have w : wrap64 ((most : Int) + 1) = ((most + 1 : Nat) : Int) := by rw [wr (by omega) (by omega)]; omega
      refine ⟨r, Ev.step (fun k => by rw [spec_FewestReels.l0]) (Ev.bind g ?_), Ev.step (fun k => by rw [impl_FewestReels.l0]) (Ev.bind hf ?_), e3⟩
      · simp only [show ¬ (0 : Int) = 1 from by omega, show ¬ (0 : Int) = -1 from by omega, if_false, w]; exact e1
      · simp only [Bool.true_eq_false, Bool.false_eq_true, if_false, w]; exact e2
end
theorem FewestReels_same {m0 m1 m2 m3 m4 m5 : Int} (hm : U8 m0 m1 m2 m3 m4 m5) (hold : Int) (l : List LS) (budget : Int) (hl : (l.length : Int) ≤ 1048576) (hw : ∀ x ∈ l, (Lit.int .i16 x.f0).wf = true ∧ (Lit.int .u8 x.f1).wf = true) :
    ∃ q : List Int × Int × Int, Ev (fun k => spec_FewestReels.f k m0 m1 m2 m3 m4 m5 hold (l.map toS) budget) q ∧ Ev (fun k => impl_FewestReels.f k m0 m1 m2 m3 m4 m5 hold (l.map toS) budget) q ∧ q.1.length ≤ 8 := by
  have hl' : ((l.map toS).length : Int) ≤ 1048576 := by simpa using hl
  obtain ⟨fine, hfine⟩ : ∃ b, decide (0 ≤ budget ∧ budget ≤ 20000) = b := ⟨_, rfl⟩
  have c1 := specCode_ev (m0 := m0) (m1 := m1) (m2 := m2) (m3 := m3) (m4 := m4) (m5 := m5) (l.map toS) (by omega) (decide (1 ≤ hold ∧ hold ≤ 2000) && fine)
  have c2 := implCode_ev hm hold (l.map toS) (by omega) fine
  have wi : impl_within.f budget 0 20000 = some fine := by rw [within_f, hfine]
  have sp : spec_l00In.f budget 0 20000 = some fine := by rw [l00In_f, hfine]
  unfold spec_FewestReels.f impl_FewestReels.f impl_reelsCode.f
  simp only [hold_f, wi, sp, Option.bind_some]
  have a1 : (∀ x ∈ l.map toS, OkS x) → (l.map toS).length ≤ 8 → Ev (fun k => spec_l04Alone.f k hold (l.map toS)) ((l.map toS).all fun x => decide (x.f0 ≤ hold)) := by
    intro ho h8
    unfold spec_l04Alone.f
    have := alone_any hold (l.map toS) (by omega) (fun x hx => by have := ho x hx; unfold OkS at this; omega) (l.map toS).length 0 (by omega)
    simpa using this
  by_cases hc : codeS m0 m1 m2 m3 m4 m5 (l.map toS) (decide (1 ≤ hold ∧ hold ≤ 2000) && fine) = 0
  · rw [hc] at c1 c2
    obtain ⟨ok, hv, h8, hf⟩ := codeS_ok hc
    have hft : fine = true := (Bool.and_eq_true _ _ ▸ hf).2
    rw [hft] at hfine
    have hbud := of_decide_eq_true hfine
    have ho := okS_of hw hv
    have h8' : (l.map toS).length ≤ 8 := by omega
    have a1 := a1 ho h8'
    generalize l.map toS = L at *
    have a2 : impl_Strand_171.f L (fun x_ => impl_reelsCode_1.f x_.f0 x_.f1 hold) = some (L.all fun x => decide (x.f0 ≤ hold)) := by
      show allG L _ = _
      refine allG_on _ _ L (by omega) fun x hx => ?_
      have o := ho x hx
      unfold OkS at o
      unfold impl_reelsCode_1.f
      rw [wr (n := x.f0) (by omega) (by omega)]
    cases ha : L.all (fun x => decide (x.f0 ≤ hold)) with
    | true =>
      rw [ha] at a1 a2
      obtain ⟨r, e1, e2, e3⟩ := most_same hm ok hold L h8' ho (fun x hx => of_decide_eq_true (List.all_eq_true.1 ha x hx)) budget (by omega) L.length 0 0 (by omega) (by omega) (by omega)
      refine ⟨r, Ev.bind c1 (Ev.bind a1 ?_), ?_, e3⟩
      · have n : (if (0 : Int) = 0 ∧ (true : Bool) = false then (6 : Int) else 0) = 0 := by simp
        simp only [n, if_true]; exact e1
      · refine Ev.bind (?_ : Ev _ (0 : Int)) ?_
        · refine Ev.bind c2 ?_
          simp only [if_true, a2, Option.bind_some]; exact Ev.now _
        · simp only [if_true]; exact e2
    | false =>
      rw [ha] at a1 a2
      refine ⟨([], 0, 6), Ev.bind c1 (Ev.bind a1 ?_), ?_, by simp⟩
      · have n : (if (0 : Int) = 0 ∧ (false : Bool) = false then (6 : Int) else 0) = 6 := by simp
        simp only [n, show ¬ (6 : Int) = 0 from by omega, if_false]; exact Ev.now _
      · refine Ev.bind (?_ : Ev _ (6 : Int)) ?_
        · refine Ev.bind c2 ?_
          simp only [if_true, a2, Option.bind_some, Bool.false_eq_true, if_false]; exact Ev.now _
        · simp only [show ¬ (6 : Int) = 0 from by omega, if_false]; exact Ev.now _
  · obtain ⟨c, hcc⟩ : ∃ c, codeS m0 m1 m2 m3 m4 m5 (l.map toS) (decide (1 ≤ hold ∧ hold ≤ 2000) && fine) = c := ⟨_, rfl⟩
    rw [hcc] at c1 c2 hc
    have al : Ev (fun k => spec_l04Alone.f k hold (l.map toS)) ((l.map toS).all fun x => decide (x.f0 ≤ hold)) := by
      unfold spec_l04Alone.f
      have := alone_any hold (l.map toS) (by omega) (by
        intro x hx
        obtain ⟨y, hy, rfl⟩ := List.mem_map.1 hx
        exact wfi16 (hw y hy).1) (l.map toS).length 0 (by omega)
      simpa using this
    have n : ∀ b : Bool, (if c = 0 ∧ b = false then (6 : Int) else c) = c := fun b => if_neg (fun z => hc z.1)
    refine ⟨([], 0, c), Ev.bind c1 (Ev.bind al ?_), ?_, by simp⟩
    · simp only [n, if_neg hc]; exact Ev.now _
    · refine Ev.bind (?_ : Ev _ (c : Int)) ?_
      · refine Ev.bind c2 ?_
        simp only [if_neg hc]; exact Ev.now _
      · simp only [if_neg hc]; exact Ev.now _
theorem FnExactFewestReels : laws_FnExactFewestReels.Pure := by
  intro m0 m1 m2 m3 m4 m5 hold l budget h0 h1 h2 h3 h4 h5 _ ⟨hl, hw⟩ _
  refine Ev.rounds ?_
  have hm := U8.mk h0 h1 h2 h3 h4 h5
  unfold laws_FnExactFewestReels.f
  simp only [szStrand_f l 1048576 (by omega) (by omega), Option.bind_some]
  by_cases h : (l.length : Int) ≤ 1048576
  · have hn : ¬ (1048576 - (l.length : Int) < 0) := by omega
    simp only [if_pos h, if_neg hn]
    have ts := toStrandS_ev l (by omega) (by omega)
    have t : laws_toMeets.f m0 m1 m2 m3 m4 m5 = some (m0, m1, m2, m3, m4, m5) := rfl
    obtain ⟨⟨w, y, c⟩, f1, f2, fl⟩ := FewestReels_same hm hold l budget h hw
    have hw : (w.length : Int) ≤ 4611686018427387904 := by simp only at fl; omega
    obtain ⟨s, m1, m2⟩ := markInt64S_ev w hw
    obtain ⟨s2, n2⟩ := markStrandS_ev (l.map toS) (by simp; omega)
    have hneg1 : ¬ (1 + 2 * ((l.map toS).length : Int) < 0) := by omega
    have hneg2 : ¬ (1 + (w.length : Int) < 0) := by omega
    simp only [t, Option.bind_some]
    refine Ev.bind ts (Ev.bind f1 (Ev.bind ts (Ev.bind f2 (Ev.bind (eqInt64S_self w hw) ?_))))
    simp only [if_true, bne_self_eq_false]
    refine Ev.step (fun k => by simp only [laws_FnExactFewestReels.j0, Bool.false_eq_true, if_false]; rfl) (Ev.bind ts (Ev.bind (eqStrandS_self (l.map toS) (by simp; omega)) ?_))
    simp only [if_true]
    refine Ev.bind n2 ?_
    simp only [if_neg hneg1]
    refine Ev.bind (eqInt64S_self w hw) ?_
    simp only [if_true, bne_self_eq_false]
    refine Ev.step (fun k => by simp only [laws_FnExactFewestReels.j1, Bool.false_eq_true, if_false]; rfl) (Ev.bind m1 (Ev.bind m2 ?_))
    simp only [if_neg hneg2, if_true, t, Option.bind_some]
    refine Ev.bind ts (Ev.bind f2 (Ev.bind (eqInt64S_self w hw) ?_))
    simp only [if_true, bne_self_eq_false]
    refine Ev.step (fun k => by simp only [laws_FnExactFewestReels.j2, Bool.false_eq_true, if_false]; rfl) (Ev.bind m2 ?_)
    simp only [if_neg hneg2, if_true]; exact Ev.now _
  · simp only [if_neg h, show ((-1 : Int) < 0) from by omega, if_true]; exact Ev.now _
end Go.Proofs.Ytjhjabibkkhmjaa.Pure
