/- The program's LotsApart and the reference's give the same answer at all meets and strands; no conditions. -/
import Derived.Test.YtfkckobfpfkbjaaXFnExactLotsApartx7
namespace Go.Proofs.Ytfkckobfpfkbjaa.Pure
open Go.RowKit Go.Proofs.Ytfkckobfpfkbjaa.XFnExactLotsApart Go.Proofs.YtfkckobfpfkbjaaW.PrintWords Go.Proofs.YtfkckobfpfkbjaaW.PrintLast
set_option linter.unusedVariables false
set_option linter.unusedSimpArgs false
theorem wr {n : Int} (h0 : -9223372036854775808 ≤ n) (h1 : n ≤ 9223372036854775807) : wrap64 n = n := by
  unfold wrap64; omega
theorem wf64 {a : Int} (h : (Lit.int .i64 a).wf = true) : -9223372036854775808 ≤ a ∧ a ≤ 9223372036854775807 := by
  simp only [Lit.wf, IntKind.min, IntKind.max, IntKind.signed, IntKind.bits, Bool.and_eq_true, decide_eq_true_eq, if_true] at h
  omega
theorem ev_id {α : Type} {g : Nat → Option α} {r s : α} (h : Ev g r) (e : r = s) : Ev g s := e ▸ h
theorem ev_const {α : Type} {o : Option α} {r : α} (h : o = some r) : Ev (fun _ => o) r := ⟨0, fun _ _ => h⟩
theorem ev_fun {α : Type} {g : Nat → Option α} {r s : α} (h : Ev g r) (k : Ev g s) : r = s := by
  obtain ⟨a, h⟩ := h
  obtain ⟨b, k⟩ := k
  have x := h (max a b) (by omega)
  have y := k (max a b) (by omega)
  rw [x] at y; exact Option.some.inj y
/-- Both come to one answer. -/
def Same {α : Type} (g f : Nat → Option α) : Prop := ∃ r, Ev g r ∧ Ev f r
theorem Same.step {α : Type} {g f g' f' : Nat → Option α} (hg : ∀ k, g (k + 1) = g' k) (hf : ∀ k, f (k + 1) = f' k) (h : Same g' f') : Same g f := by
  obtain ⟨r, a, b⟩ := h
  exact ⟨r, Ev.step hg a, Ev.step hf b⟩
theorem Same.left {α : Type} {g f g' : Nat → Option α} (hg : ∀ k, g (k + 1) = g' k) (h : Same g' f) : Same g f := by
  obtain ⟨r, a, b⟩ := h
  exact ⟨r, Ev.step hg a, b⟩
theorem Same.right {α : Type} {g f f' : Nat → Option α} (hf : ∀ k, f (k + 1) = f' k) (h : Same g f') : Same g f := by
  obtain ⟨r, a, b⟩ := h
  exact ⟨r, a, Ev.step hf b⟩
theorem Same.now {α : Type} (r : α) : Same (fun _ => some r) (fun _ => some r) := ⟨r, Ev.now r, Ev.now r⟩
theorem if_dec {α : Type} {p : Prop} [Decidable p] (a b : α) : (if decide p = true then a else b) = if p then a else b := by
  by_cases h : p <;> simp [h]
theorem w00 : wrap64 0 = 0 := wr (by omega) (by omega)
theorem l00In_f (a b c : Int) : spec_l00In.f a b c = some (decide (b ≤ a ∧ a ≤ c)) := by
  unfold spec_l00In.f
  by_cases h : b ≤ a <;> simp [h]
theorem within_f (a b c : Int) : impl_within.f a b c = some (decide (b ≤ a ∧ a ≤ c)) := by
  unfold impl_within.f
  by_cases h : b ≤ a <;> simp [h]
theorem rd_lt {l : List Int} {i : Nat} (h : i < l.length) : rd l (i : Int) = l[i] := by
  unfold rd; simp [List.getD, h]
theorem eqInt64S_loop (a b : List Int) (hab : a.length = b.length) (hn : (a.length : Int) ≤ 4611686018427387904) (d : Nat) : ∀ (i : Nat), i ≤ a.length → a.length - i = d →
    Ev (fun k => laws_eqInt64S.l0 k a b (i : Int)) (decide (a.drop i = b.drop i)) := by
  induction d with
  | zero =>
    intro i hi hd
    refine Ev.step (f := fun _ => some (decide (a.drop i = b.drop i))) (fun k => ?_) (Ev.now _)
    simp only [laws_eqInt64S.l0]
    rw [if_neg (by omega), List.drop_eq_nil_of_le (by omega), List.drop_eq_nil_of_le (by omega)]; simp
  | succ d ih =>
    intro i hi hd
    have ha : i < a.length := by omega
    have hb : i < b.length := by omega
    by_cases e : a[i] = b[i]
    · refine Ev.step (fun k => ?_) (ev_id (ih (i + 1) (by omega) (by omega)) ?_)
      · simp only [laws_eqInt64S.l0]
        rw [if_pos (by omega), if_pos (by omega), if_pos (by omega), rd_lt ha, rd_lt hb, if_pos e, wr (by omega) (by omega)]; rfl
      · simp only [List.drop_eq_getElem_cons ha, List.drop_eq_getElem_cons hb, List.cons.injEq, e, true_and]
    · refine Ev.step (f := fun _ => some false) (fun k => ?_) (ev_id (Ev.now _) ?_)
      · simp only [laws_eqInt64S.l0]
        rw [if_pos (by omega), if_pos (by omega), if_pos (by omega), rd_lt ha, rd_lt hb, if_neg e]
      · simp only [List.drop_eq_getElem_cons ha, List.drop_eq_getElem_cons hb, List.cons.injEq, e, false_and, decide_false]
theorem eqInt64S_ev (a b : List Int) (hn : (a.length : Int) ≤ 4611686018427387904) : Ev (fun k => laws_eqInt64S.f k a b) (decide (a = b)) := by
  unfold laws_eqInt64S.f
  by_cases h : a.length = b.length
  · simp only [h, if_true]
    simpa using eqInt64S_loop a b h hn a.length 0 (by omega) (by omega)
  · have h' : ¬ (a.length : Int) = b.length := by omega
    simp only [if_neg h']
    have : a ≠ b := fun e => h (by rw [e])
    simpa [this] using Ev.now false
theorem eqInt64S_self (a : List Int) (hn : (a.length : Int) ≤ 4611686018427387904) : Ev (fun k => laws_eqInt64S.f k a a) true := by
  simpa using eqInt64S_ev a a hn
theorem markInt64S_loop (d : Nat) : ∀ (a p : List Int) (m : Int) (i : Nat), i + d = a.length → (a.length : Int) ≤ 4611686018427387904 → m = 1 + i → (∀ j (h : j < a.length), j < i → a[j] = 1 + (j : Int)) →
    ∃ r : List Int, Ev (fun k => laws_markInt64S.l0 k a m (i : Int)) (1 + (a.length : Int), r) ∧ r.length = a.length ∧ ∀ j (h : j < r.length), r[j] = 1 + (j : Int) := by
  induction d with
  | zero =>
    intro a p m i hi hn hm ha
    refine ⟨a, Ev.step (f := fun _ => some (1 + (a.length : Int), a)) (fun k => ?_) (Ev.now _), rfl, fun j h => ha j h (by omega)⟩
    simp only [laws_markInt64S.l0]
    rw [if_neg (by omega), show m = 1 + (a.length : Int) by omega]
  | succ d ih =>
    intro a p m i hi hn hm ha
    obtain ⟨r, h1, h2, h3⟩ := ih (a.set i m) p (m + 1) (i + 1) (by simp; omega) (by simpa using hn) (by omega) (by
      intro j h hj
      simp only [List.getElem_set]
      split
      · omega
      · exact ha j (by simpa using h) (by omega))
    simp only [List.length_set] at h1 h2
    refine ⟨r, Ev.step (fun k => ?_) h1, h2, h3⟩
    simp only [laws_markInt64S.l0]
    rw [if_pos (by omega), if_pos (by omega), wr (n := m + 1) (by omega) (by omega), wr (n := (i : Int) + 1) (by omega) (by omega)]; rfl
theorem heldInt64S_loop (a : List Int) (hn : (a.length : Int) ≤ 4611686018427387904) (ha : ∀ j (h : j < a.length), a[j] = 1 + (j : Int)) (d : Nat) : ∀ (i : Nat), i + d = a.length →
    Ev (fun k => laws_heldInt64S.l0 k a (1 + (i : Int)) (i : Int)) (1 + (a.length : Int)) := by
  induction d with
  | zero =>
    intro i hi
    refine Ev.step (f := fun _ => some (1 + (a.length : Int))) (fun k => ?_) (Ev.now _)
    simp only [laws_heldInt64S.l0]
    rw [if_neg (by omega), show i = a.length by omega]
  | succ d ih =>
    intro i hi
    refine Ev.step (fun k => ?_) (ih (i + 1) (by omega))
    simp only [laws_heldInt64S.l0]
    rw [if_pos (by omega), if_pos (by omega), rd_lt (by omega), if_pos (ha i (by omega)), wr (n := 1 + (i : Int) + 1) (by omega) (by omega), wr (n := (i : Int) + 1) (by omega) (by omega), show 1 + (i : Int) + 1 = 1 + ((i + 1 : Nat) : Int) by omega]; rfl
/-- What has been marked is held. -/
theorem markInt64S_ev (a : List Int) (hn : (a.length : Int) ≤ 4611686018427387904) :
    ∃ r : List Int, Ev (fun k => laws_markInt64S.f k a 1) (1 + (a.length : Int), r) ∧ Ev (fun k => laws_heldInt64S.f k r 1) (1 + (a.length : Int)) := by
  obtain ⟨r, h1, h2, h3⟩ := markInt64S_loop a.length a a 1 0 (by omega) hn (by omega) (fun j h hj => by omega)
  refine ⟨r, h1, ?_⟩
  have := heldInt64S_loop r (by omega) h3 r.length 0 (by omega)
  rw [h2] at this
  exact this
theorem allO_some {α : Type} (p : α → Bool) : ∀ l : List α, allO (fun x => some (p x)) l = some (l.all p)
  | [] => rfl
  | x :: l => by
    simp only [allO, Option.bind_some, List.all_cons, allO_some p l]
    cases p x <;> simp
theorem allG_some {α : Type} (p : α → Bool) (l : List α) (h : (l.length : Int) ≤ 4611686018427387904) : allG l (fun x => some (p x)) = some (l.all p) := by
  unfold allG; rw [if_pos h, allO_some]
theorem allO_on {α : Type} (q : α → Option Bool) (p : α → Bool) : ∀ l : List α, (∀ x ∈ l, q x = some (p x)) → allO q l = some (l.all p)
  | [], _ => rfl
  | x :: l, h => by
    simp only [allO, h x (by simp), Option.bind_some, List.all_cons, allO_on q p l (fun y hy => h y (List.mem_cons_of_mem _ hy))]
    cases p x <;> simp
theorem allG_on {α : Type} (q : α → Option Bool) (p : α → Bool) (l : List α) (hl : (l.length : Int) ≤ 4611686018427387904) (h : ∀ x ∈ l, q x = some (p x)) : allG l q = some (l.all p) := by
  unfold allG; rw [if_pos hl]; exact allO_on q p l h
abbrev LS := S29
abbrev IS := S32
def toS (x : LS) : IS := ⟨x.f0, x.f1⟩
theorem rdIS {l : List IS} {i : Nat} (h : i < l.length) : rd_T32 l (i : Int) = l[i] := by
  unfold rd_T32; simp [List.getD, h]
theorem rdLS {l : List LS} {i : Nat} (h : i < l.length) : rd_T29 l (i : Int) = l[i] := by
  unfold rd_T29; simp [List.getD, h]
theorem szStrand_f (l : List LS) (n : Int) (h0 : (l.length : Int) ≤ 140737488351232) (hn : 0 ≤ n ∧ n ≤ 1048576) : laws_szStrandS.f l n = some (if (l.length : Int) ≤ n then n - l.length else -1) := by
  unfold laws_szStrandS.f
  rw [wr (by omega) (by omega)]
  by_cases h : (l.length : Int) ≤ n
  · rw [if_neg (by omega), if_pos h]
  · rw [if_pos (by omega), if_neg h]
theorem toStrandS_loop (l : List LS) (hl : (l.length : Int) ≤ 140737488351232) (d : Nat) : ∀ (out rest : List IS) (i : Nat), out.length = i → rest.length = d → i + d = l.length →
    Ev (fun k => laws_toStrandS.l0 k l (out ++ rest) (i : Int)) (out ++ (l.drop i).map toS) := by
  induction d with
  | zero =>
    intro out rest i ho hr hi
    refine Ev.step (f := fun _ => some (out ++ (l.drop i).map toS)) (fun k => ?_) (Ev.now _)
    simp only [laws_toStrandS.l0]
    rw [if_neg (by omega), List.drop_eq_nil_of_le (by omega), List.length_eq_zero_iff.1 hr]; simp
  | succ d ih =>
    intro out rest i ho hr hi
    have hil : i < l.length := by omega
    obtain ⟨y, rest, rfl⟩ : ∃ y r, rest = y :: r := by cases rest with | nil => simp at hr | cons y r => exact ⟨y, r, rfl⟩
    refine Ev.step (fun k => ?_) (ev_id (ih (out ++ [toS l[i]]) rest (i + 1) (by simp; omega) (by simpa using hr) (by omega)) ?_)
    · simp only [laws_toStrandS.l0, laws_toStrand.f, Option.bind_some]
      rw [if_pos (by omega), if_pos (by omega), if_pos (by simp; omega), rdLS hil, wr (n := (i : Int) + 1) (by omega) (by omega)]
      have : (out ++ y :: rest).set (i : Int).toNat (⟨l[i].f0, l[i].f1⟩ : IS) = out ++ [toS l[i]] ++ rest := by
        rw [Int.toNat_natCast, List.set_append_right _ _ (by omega), ho]; simp [toS]
      rw [this]; rfl
    · rw [List.drop_eq_getElem_cons hil]; simp only [List.map_cons, List.append_assoc, List.cons_append, List.nil_append]
theorem toStrandS_ev (l : List LS) (hl : (l.length : Int) ≤ 140737488351232) (hl2 : l.length ≤ 46912496118442) : Ev (fun k => laws_toStrandS.f k l) (l.map toS) := by
  unfold laws_toStrandS.f
  have h0 : (0 : Int) ≤ (l.length : Int) := by omega
  have h1 : ((l.length : Int) : Int).toNat ≤ 70368744177664 := by omega
  simp only [if_pos h0, if_pos h1]
  have := toStrandS_loop l hl l.length [] (List.replicate l.length z32) 0 rfl (by simp) (by omega)
  simpa using this
theorem eqStrandS_loop (l : List IS) (hl : (l.length : Int) ≤ 140737488351232) (d : Nat) : ∀ (i : Nat), i + d = l.length → Ev (fun k => laws_eqStrandS.l0 k l l (i : Int)) true := by
  induction d with
  | zero =>
    intro i hi
    refine Ev.step (f := fun _ => some true) (fun k => ?_) (Ev.now _)
    simp only [laws_eqStrandS.l0]; rw [if_neg (by omega)]
  | succ d ih =>
    intro i hi
    refine Ev.step (fun k => ?_) (ih (i + 1) (by omega))
    simp only [laws_eqStrandS.l0, laws_eqStrand.f, if_true, Option.bind_some]
    rw [if_pos (by omega), if_pos (by omega), if_pos (by omega), wr (n := (i : Int) + 1) (by omega) (by omega)]; rfl
theorem eqStrandS_self (l : List IS) (hl : (l.length : Int) ≤ 140737488351232) : Ev (fun k => laws_eqStrandS.f k l l) true := by
  unfold laws_eqStrandS.f
  simp only [if_true]
  exact eqStrandS_loop l hl l.length 0 (by omega)
/-- What a valid strand is. -/
def vS (x : IS) : Bool := decide ((1 ≤ wrap64 x.f0 ∧ wrap64 x.f0 ≤ 2000) ∧ x.f1 < 6)
theorem vS_loop (l : List IS) (hl : (l.length : Int) ≤ 140737488351232) (d : Nat) : ∀ (i : Nat), i + d = l.length → Ev (fun k => spec_l04Strands.l0 k l (i : Int)) ((l.drop i).all vS) := by
  induction d with
  | zero =>
    intro i hi
    refine Ev.step (f := fun _ => some true) (fun k => ?_) (ev_id (Ev.now _) ?_)
    · simp only [spec_l04Strands.l0]; rw [if_neg (by omega)]
    · rw [List.drop_eq_nil_of_le (by omega)]; rfl
  | succ d ih =>
    intro i hi
    have hil : i < l.length := by omega
    rw [List.drop_eq_getElem_cons hil, List.all_cons]
    have hv : vS l[i] = decide ((1 ≤ wrap64 l[i].f0 ∧ wrap64 l[i].f0 ≤ 2000) ∧ l[i].f1 < 6) := rfl
    by_cases h1 : 1 ≤ wrap64 l[i].f0 ∧ wrap64 l[i].f0 ≤ 2000
    · by_cases h2 : l[i].f1 < 6
      · refine Ev.step (fun k => ?_) (ev_id (ih (i + 1) (by omega)) (by rw [hv, decide_eq_true ⟨h1, h2⟩, Bool.true_and]))
        simp only [spec_l04Strands.l0, rdIS hil, l00In_f, Option.bind_some, if_dec]
        rw [if_pos (by omega), if_pos (by omega), if_pos h1, if_neg (by omega), wr (n := (i : Int) + 1) (by omega) (by omega)]; rfl
      · refine Ev.step (f := fun _ => some false) (fun k => ?_) (ev_id (Ev.now _) (by rw [hv, decide_eq_false (fun h => h2 h.2), Bool.false_and]))
        simp only [spec_l04Strands.l0, rdIS hil, l00In_f, Option.bind_some, if_dec]
        rw [if_pos (by omega), if_pos (by omega), if_pos h1, if_pos (by omega)]
    · refine Ev.step (f := fun _ => some false) (fun k => ?_) (ev_id (Ev.now _) (by rw [hv, decide_eq_false (fun h => h1 h.1), Bool.false_and]))
      simp only [spec_l04Strands.l0, rdIS hil, l00In_f, Option.bind_some, if_dec]
      rw [if_pos (by omega), if_pos (by omega), if_neg h1]
theorem vS_ev (l : List IS) (hl : (l.length : Int) ≤ 140737488351232) : Ev (fun k => spec_l04Strands.f k l) (l.all vS) := by
  unfold spec_l04Strands.f
  have := vS_loop l hl l.length 0 (by omega)
  simpa using this
theorem vS_impl (x : IS) : impl_ValidStrands_1.f x.f0 x.f1 = some (vS x) := by
  unfold impl_ValidStrands_1.f vS
  simp only [within_f, Option.bind_some, if_dec]
  by_cases h1 : 1 ≤ wrap64 x.f0 ∧ wrap64 x.f0 ≤ 2000 <;> simp [h1]
theorem validS_f (l : List IS) (hl : (l.length : Int) ≤ 140737488351232) : impl_ValidStrands.f l = some (l.all vS) := by
  unfold impl_ValidStrands.f
  have e : (fun x_ : IS => impl_ValidStrands_1.f x_.f0 x_.f1) = fun x => some (vS x) := funext vS_impl
  show (allG l _).bind _ = _
  rw [e, allG_some vS l (by omega)]; rfl
theorem markStrandS_loop (d : Nat) : ∀ (a : List IS) (m : Int) (i : Nat), i + d = a.length → (a.length : Int) ≤ 1073741824 → 0 ≤ m → m + 2 * d ≤ 4611686018427387904 →
    ∃ r : List IS, Ev (fun k => laws_markStrandS.l0 k a m (i : Int)) (m + 2 * d, r) := by
  induction d with
  | zero =>
    intro a m i hi hn h0 h1
    refine ⟨a, Ev.step (f := fun _ => some (m, a)) (fun k => ?_) (ev_id (Ev.now _) (by simp))⟩
    simp only [laws_markStrandS.l0]
    rw [if_neg (by omega)]
  | succ d ih =>
    intro a m i hi hn h0 h1
    have w1 : wrap64 (m + 1) = m + 1 := wr (by omega) (by omega)
    have w2 : wrap64 (m + 1 + 1) = m + 2 := by rw [wr (by omega) (by omega)]; omega
    have w3 : wrap64 ((i : Int) + 1) = ((i + 1 : Nat) : Int) := by rw [wr (by omega) (by omega)]; omega
    obtain ⟨r, h⟩ := ih ((a.set i (⟨IntKind.i16.wrap m, (rd_T32 a i).f1⟩ : IS)).set i (⟨(rd_T32 (a.set i (⟨IntKind.i16.wrap m, (rd_T32 a i).f1⟩ : IS)) i).f0, (m + 1) % 256⟩ : IS)) (m + 2) (i + 1) (by simp; omega) (by simpa using hn) (by omega) (by omega)
    refine ⟨r, Ev.step (fun k => ?_) (ev_id h (by rw [Prod.mk.injEq]; exact ⟨by omega, rfl⟩))⟩
    simp only [laws_markStrandS.l0, Option.bind_some, w1, w2, w3, Int.toNat_natCast]
    rw [if_pos (by omega), if_pos (by omega)]
theorem markStrandS_ev (a : List IS) (hn : (a.length : Int) ≤ 1073741824) : ∃ r : List IS, Ev (fun k => laws_markStrandS.f k a 1) (1 + 2 * (a.length : Int), r) := by
  obtain ⟨r, h⟩ := markStrandS_loop a.length a 1 0 (by omega) hn (by omega) (by omega)
  exact ⟨r, h⟩
theorem wfu8 {a : Int} (h : (Lit.int .u8 a).wf = true) : 0 ≤ a ∧ a < 256 := by
  simp only [Lit.wf, IntKind.min, IntKind.max, IntKind.signed, IntKind.bits, Bool.and_eq_true, decide_eq_true_eq, if_false, Bool.false_eq_true] at h
  omega
theorem rd_u8 (ms : List Int) (h : ∀ x ∈ ms, 0 ≤ x ∧ x < 256) (k : Int) : 0 ≤ rd ms k ∧ rd ms k < 256 := by
  unfold rd
  rw [List.getD_eq_getElem?_getD]
  cases hk : ms[k.toNat]? with
  | none => simp
  | some x => simpa using h x (List.mem_of_getElem? hk)
theorem shift_u8 {x : Int} (a : Nat) (h0 : 0 ≤ x) (h1 : x < 256) : 0 ≤ x / 2 ^ a ∧ x / 2 ^ a < 256 := by
  refine ⟨Int.ediv_nonneg h0 (Int.le_of_lt (Int.pow_pos (by omega))), ?_⟩
  exact Int.lt_of_le_of_lt (Int.ediv_le_self _ h0) h1
theorem and1_u8 {x : Int} (h0 : 0 ≤ x) (h1 : x < 256) : bits BinOp.and IntKind.u8 x 1 = x % 2 := by
  have z := bits_mask .u8 8 (by decide) wraps_u8 1 (by decide) x h0 h1
  simpa using z
theorem tmod2 {x : Int} (h0 : 0 ≤ x) : x.tmod 2 = x % 2 := Int.tmod_eq_emod_of_nonneg h0
theorem bit_same {x : Int} (a : Nat) (h0 : 0 ≤ x) (h1 : x < 256) : impl_mBit x a = spec_mBit x a := by
  obtain ⟨s0, s1⟩ := shift_u8 a h0 h1
  unfold impl_mBit spec_mBit
  rw [and1_u8 s0 s1, tmod2 s0]
theorem vmB_same (ms : List Int) (hm : ∀ x ∈ ms, 0 ≤ x ∧ x < 256) {x : Int} (h0 : 0 ≤ x) (h1 : x < 256) (a : Nat) : ∀ d, impl_vmB ms x a d = spec_vmB ms x a d
  | 0 => rfl
  | d + 1 => by
    simp only [impl_vmB, spec_vmB]
    rw [bit_same _ h0 h1, bit_same a (rd_u8 ms hm _).1 (rd_u8 ms hm _).2, vmB_same ms hm h0 h1 a d]
theorem vmA_same (ms : List Int) (hm : ∀ x ∈ ms, 0 ≤ x ∧ x < 256) : ∀ d, impl_vmA ms d = spec_vmA ms d
  | 0 => rfl
  | d + 1 => by
    simp only [impl_vmA, spec_vmA]
    have h := rd_u8 ms hm ((5 - d : Nat) : Int)
    rw [bit_same _ h.1 h.2, vmB_same ms hm h.1 h.2, vmA_same ms hm d]
/-- Are meets valid? -/
def okM (a b c d e f : Int) : Bool := spec_vmA [a, b, c, d, e, f] 6
def U8 (a b c d e f : Int) : Prop := ∀ x ∈ [a, b, c, d, e, f], 0 ≤ x ∧ x < 256
theorem U8.mk {a b c d e f : Int} (ha : (Lit.int .u8 a).wf = true) (hb : (Lit.int .u8 b).wf = true) (hc : (Lit.int .u8 c).wf = true) (hd : (Lit.int .u8 d).wf = true) (he : (Lit.int .u8 e).wf = true) (hf : (Lit.int .u8 f).wf = true) : U8 a b c d e f := by
  intro x hx
  simp only [List.mem_cons, List.not_mem_nil, or_false] at hx
  rcases hx with rfl | rfl | rfl | rfl | rfl | rfl
  · exact wfu8 ha
  · exact wfu8 hb
  · exact wfu8 hc
  · exact wfu8 hd
  · exact wfu8 he
  · exact wfu8 hf
theorem specM_f (a b c d e f : Int) : spec_l04Meets.f a b c d e f = some (okM a b c d e f) := rfl
theorem implM_f {a b c d e f : Int} (h : U8 a b c d e f) : impl_ValidMeets.f a b c d e f = some (okM a b c d e f) := by
  unfold impl_ValidMeets.f okM
  rw [vmA_same _ h]
/-- May two dyes be on one reel? -/
def may (ms : List Int) (a b : Int) : Bool := (rd ms a / 2 ^ b.toNat) % 2 == 1
theorem specMay_f (m0 m1 m2 m3 m4 m5 aL a bL b : Int) (hm : U8 m0 m1 m2 m3 m4 m5) (ha : 0 ≤ a ∧ a < 6) (hb : 0 ≤ b ∧ b < 6) : spec_l04May.f m0 m1 m2 m3 m4 m5 aL a bL b = some (may [m0, m1, m2, m3, m4, m5] a b) := by
  unfold spec_l04May.f may
  rw [if_pos ⟨ha.1, ha.2, hb.1⟩]
  have w : IntKind.u64.wrap b = b := by
    simp only [IntKind.wrap, IntKind.bits, IntKind.signed]; simp; omega
  have h := rd_u8 _ hm a
  rw [w, Nat.min_eq_left (by omega), tmod2 (shift_u8 b.toNat h.1 h.2).1]
theorem implMay_f (m0 m1 m2 m3 m4 m5 aL a bL b : Int) (hm : U8 m0 m1 m2 m3 m4 m5) (ha : 0 ≤ a ∧ a < 6) (hb : 0 ≤ b ∧ b < 6) : impl_mayWind.f m0 m1 m2 m3 m4 m5 aL a bL b = some (may [m0, m1, m2, m3, m4, m5] a b) := by
  unfold impl_mayWind.f may
  rw [if_pos ⟨ha.1, ha.2, hb.1⟩]
  have h := rd_u8 _ hm a
  have s := shift_u8 b.toNat h.1 h.2
  rw [Nat.min_eq_left (by omega), and1_u8 s.1 s.2]
theorem spec_vmA_spec (ms : List Int) : ∀ d : Nat, d ≤ 6 → spec_vmA ms d = true → ∀ a : Nat, 6 - d ≤ a → a < 6 → spec_mBit (rd ms (a : Int)) a ≠ 0 ∧ spec_vmB ms (rd ms (a : Int)) a 6 = true
  | 0, _, _ => fun a h1 h2 => by omega
  | d + 1, hd, h => fun a h1 h2 => by
    simp only [spec_vmA] at h
    split at h
    · split at h
      · cases h
      · rename_i hb
        split at h
        · rename_i hv
          by_cases he : a = 5 - d
          · subst he; exact ⟨hb, hv⟩
          · exact spec_vmA_spec ms d (by omega) h a (by omega) h2
        · cases h
    · cases h
theorem spec_vmB_spec (ms : List Int) (x : Int) (a : Nat) : ∀ d : Nat, d ≤ 6 → spec_vmB ms x a d = true → ∀ b : Nat, 6 - d ≤ b → b < 6 → spec_mBit x b = spec_mBit (rd ms (b : Int)) a
  | 0, _, _ => fun b h1 h2 => by omega
  | d + 1, hd, h => fun b h1 h2 => by
    simp only [spec_vmB] at h
    split at h
    · rename_i he
      by_cases hb : b = 5 - d
      · subst hb; exact he
      · exact spec_vmB_spec ms x a d (by omega) h b (by omega) h2
    · cases h
theorem may_bit (ms : List Int) (hm : ∀ x ∈ ms, 0 ≤ x ∧ x < 256) (a b : Int) : may ms a b = decide (spec_mBit (rd ms a) b.toNat = 1) := by
  have h := rd_u8 ms hm a
  unfold may spec_mBit
  rw [tmod2 (shift_u8 b.toNat h.1 h.2).1]
  by_cases e : rd ms a / 2 ^ b.toNat % 2 = 1 <;> simp [e]
theorem mBit_two (ms : List Int) (hm : ∀ x ∈ ms, 0 ≤ x ∧ x < 256) (k : Int) (b : Nat) : spec_mBit (rd ms k) b = 0 ∨ spec_mBit (rd ms k) b = 1 := by
  have h := rd_u8 ms hm k
  unfold spec_mBit
  rw [tmod2 (shift_u8 b h.1 h.2).1]
  omega
theorem may_self {m0 m1 m2 m3 m4 m5 : Int} (hm : U8 m0 m1 m2 m3 m4 m5) (ok : okM m0 m1 m2 m3 m4 m5 = true) {a : Int} (ha : 0 ≤ a ∧ a < 6) : may [m0, m1, m2, m3, m4, m5] a a = true := by
  obtain ⟨n, rfl⟩ := Int.eq_ofNat_of_zero_le ha.1
  have h := (spec_vmA_spec _ 6 (by omega) ok n (by omega) (by omega)).1
  rw [may_bit _ hm]
  rcases mBit_two _ hm n n with e | e
  · exact absurd e h
  · simpa using e
theorem may_sym {m0 m1 m2 m3 m4 m5 : Int} (hm : U8 m0 m1 m2 m3 m4 m5) (ok : okM m0 m1 m2 m3 m4 m5 = true) {a b : Int} (ha : 0 ≤ a ∧ a < 6) (hb : 0 ≤ b ∧ b < 6) : may [m0, m1, m2, m3, m4, m5] a b = may [m0, m1, m2, m3, m4, m5] b a := by
  obtain ⟨n, rfl⟩ := Int.eq_ofNat_of_zero_le ha.1
  obtain ⟨j, rfl⟩ := Int.eq_ofNat_of_zero_le hb.1
  have h := spec_vmB_spec _ _ n 6 (by omega) (spec_vmA_spec _ 6 (by omega) ok n (by omega) (by omega)).2 j (by omega) (by omega)
  rw [may_bit _ hm, may_bit _ hm, Int.toNat_natCast, Int.toNat_natCast, h]
theorem vS_of {x : IS} (h : vS x = true) (hw : -32768 ≤ x.f0 ∧ x.f0 ≤ 32767) : 1 ≤ x.f0 ∧ x.f0 ≤ 2000 ∧ x.f1 < 6 := by
  unfold vS at h
  have := of_decide_eq_true h
  rw [wr (by omega) (by omega)] at this
  omega
/-- A strand as it may be. -/
def OkS (x : IS) : Prop := (1 ≤ x.f0 ∧ x.f0 ≤ 2000) ∧ 0 ≤ x.f1 ∧ x.f1 < 6
/-- The code for meets, strands and numbers. -/
def codeS (m0 m1 m2 m3 m4 m5 : Int) (l : List IS) (fine : Bool) : Int :=
  if okM m0 m1 m2 m3 m4 m5 = true then (if l.all vS = true then (if (l.length : Int) > 8 then 3 else if fine = true then 0 else 2) else 1) else 1
theorem specCode_ev {m0 m1 m2 m3 m4 m5 : Int} (l : List IS) (hl : (l.length : Int) ≤ 140737488351232) (fine : Bool) :
    Ev (fun k => spec_l04Asked.f k m0 m1 m2 m3 m4 m5 l fine) (codeS m0 m1 m2 m3 m4 m5 l fine) := by
  unfold spec_l04Asked.f codeS
  simp only [specM_f, Option.bind_some]
  by_cases ok : okM m0 m1 m2 m3 m4 m5 = true
  · simp only [if_pos ok]
    refine Ev.bind (vS_ev l hl) ?_
    cases l.all vS with
    | false => exact Ev.step (f := fun _ => some 1) (fun k => by simp [spec_l04Asked.j0]) (Ev.now _)
    | true =>
      simp only [if_true, Bool.not_true]
      refine Ev.step (f := fun _ => some (if (l.length : Int) > 8 then 3 else if fine = true then 0 else 2)) (fun k => ?_) (Ev.now _)
      simp only [spec_l04Asked.j0, Bool.false_eq_true, if_false]
      by_cases h : (l.length : Int) > 8
      · simp only [if_pos h]
      · simp only [if_neg h]; cases fine <;> simp
  · simp only [if_neg ok]
    exact Ev.step (f := fun _ => some 1) (fun k => by simp [spec_l04Asked.j0]) (Ev.now _)
theorem implCode_ev {m0 m1 m2 m3 m4 m5 : Int} (hm : U8 m0 m1 m2 m3 m4 m5) (hold : Int) (l : List IS) (hl : (l.length : Int) ≤ 140737488351232) (fine : Bool) :
    Ev (fun k => impl_strandsCode.f k m0 m1 m2 m3 m4 m5 hold l fine) (codeS m0 m1 m2 m3 m4 m5 l (decide (1 ≤ hold ∧ hold ≤ 2000) && fine)) := by
  unfold impl_strandsCode.f codeS
  simp only [implM_f hm, Option.bind_some]
  by_cases ok : okM m0 m1 m2 m3 m4 m5 = true
  · simp only [if_pos ok, validS_f l hl, Option.bind_some]
    cases l.all vS with
    | false => exact Ev.step (f := fun _ => some 1) (fun k => by simp [impl_strandsCode.j0]) (Ev.now _)
    | true =>
      simp only [if_true, Bool.not_true]
      refine Ev.step (f := fun _ => some (if (l.length : Int) > 8 then 3 else if (decide (1 ≤ hold ∧ hold ≤ 2000) && fine) = true then 0 else 2)) (fun k => ?_) (Ev.now _)
      simp only [impl_strandsCode.j0, Bool.false_eq_true, if_false, within_f, Option.bind_some]
      by_cases h : (l.length : Int) > 8
      · simp only [if_pos h]
      · simp only [if_neg h]
        cases decide (1 ≤ hold ∧ hold ≤ 2000) <;> cases fine <;> simp
  · simp only [if_neg ok]
    exact Ev.step (f := fun _ => some 1) (fun k => by simp [impl_strandsCode.j0]) (Ev.now _)
theorem codeS_ok {m0 m1 m2 m3 m4 m5 : Int} {l : List IS} {fine : Bool} (h : codeS m0 m1 m2 m3 m4 m5 l fine = 0) : okM m0 m1 m2 m3 m4 m5 = true ∧ l.all vS = true ∧ (l.length : Int) ≤ 8 ∧ fine = true := by
  unfold codeS at h
  split at h
  · rename_i ok
    split at h
    · rename_i hv
      split at h
      · omega
      · split at h
        · rename_i hf
          exact ⟨ok, hv, by omega, hf⟩
        · omega
    · omega
  · omega
theorem wfi16 {a : Int} (h : (Lit.int .i16 a).wf = true) : -32768 ≤ a ∧ a ≤ 32767 := by
  simp only [Lit.wf, IntKind.min, IntKind.max, IntKind.signed, IntKind.bits, Bool.and_eq_true, decide_eq_true_eq, if_true] at h
  omega
theorem okS_of {l : List LS} (hw : ∀ x ∈ l, (Lit.int .i16 x.f0).wf = true ∧ (Lit.int .u8 x.f1).wf = true) (hv : (l.map toS).all vS = true) : ∀ x ∈ l.map toS, OkS x := by
  intro x hx
  obtain ⟨y, hy, rfl⟩ := List.mem_map.1 hx
  obtain ⟨h1, h2⟩ := hw y hy
  have h3 := wfi16 h1
  have h4 := wfu8 h2
  have h5 := vS_of (List.all_eq_true.1 hv _ hx) h3
  exact ⟨⟨h5.1, h5.2.1⟩, h4.1, h5.2.2⟩
/-- Numbers, as the program has them. -/
def up (N : List Nat) : List Int := N.map fun (j : Nat) => (j : Int)
theorem up_len (N : List Nat) : (up N).length = N.length := by unfold up; simp
theorem up_app (N M : List Nat) : up (N ++ M) = up N ++ up M := by unfold up; simp
theorem up_inj : ∀ {N M : List Nat}, up N = up M → N = M
  | [], [], _ => rfl
  | [], _ :: _, h => by simp [up] at h
  | _ :: _, [], h => by simp [up] at h
  | x :: N, y :: M, h => by
    simp only [up, List.map_cons, List.cons.injEq] at h
    obtain ⟨h1, h2⟩ := h
    have : x = y := by omega
    rw [this, up_inj (N := N) (M := M) h2]
/-- All rising lists of numbers from i on, below i + d. -/
def lE : Nat → Nat → List (List Nat)
  | _, 0 => [[]]
  | i, d + 1 => (lE (i + 1) d).map (i :: ·) ++ lE (i + 1) d
/-- All lists that go on from b, none of whose numbers stands beside one that it may not stand beside. -/
def lG (ap : Nat → Nat → Bool) : List Nat → Nat → Nat → List (List Nat)
  | _, _, 0 => []
  | b, i, d + 1 => (if b.all (fun j => ap i j) = true then (b ++ [i]) :: lG ap (b ++ [i]) (i + 1) d else []) ++ lG ap b (i + 1) d
def okL (ap : Nat → Nat → Bool) : List Nat → List Nat → Bool
  | _, [] => true
  | b, i :: s => b.all (fun j => ap i j) && okL ap (b ++ [i]) s
/-- The numbers of the bits that are set. -/
def mN (b : Nat) : List Nat := (List.range 8).filter fun i => b.testBit i
def bN (s : List Nat) : Nat := (s.map (2 ^ ·)).sum
/-- Which list comes first? -/
def lx : List Nat → List Nat → Bool
  | x :: a, y :: b => decide (x < y) || (decide (x = y) && lx a b)
  | [], _ :: _ => true
  | _, [] => false
def rL (a b : List Nat) : Bool := !decide (a.length = b.length) || lx a b
def pairB {α : Type} (r : α → α → Bool) : List α → Bool
  | [] => true
  | a :: l => l.all (r a) && pairB r l
theorem pairB_spec {α : Type} {r : α → α → Bool} : ∀ {l : List α}, pairB r l = true → l.Pairwise (fun a b => r a b = true)
  | [], _ => .nil
  | a :: l, h => by
    simp only [pairB, Bool.and_eq_true, List.all_eq_true] at h
    exact .cons h.1 (pairB_spec h.2)
/-- All this is seen by reckoning: there are at most eight strands. -/
def lotsB (n : Nat) : Bool :=
  ((lE 0 n).all fun s => decide (bN s < 2 ^ n) && decide (mN (bN s) = s) && pairB (fun a b => decide (a < b)) s && s.all (fun i => decide (i < n))) &&
  ((List.range (2 ^ n)).all fun b => (lE 0 n).contains (mN b)) &&
  pairB rL ([] :: lG (fun _ _ => true) [] 0 n)
theorem lots_all : (List.range 9).all lotsB = true := by decide +kernel
theorem lots_n {n : Nat} (h : n ≤ 8) : lotsB n = true := List.all_eq_true.1 lots_all n (List.mem_range.2 (by omega))
theorem lE_bits {n : Nat} (h : n ≤ 8) {s : List Nat} (hs : s ∈ lE 0 n) : bN s < 2 ^ n ∧ mN (bN s) = s ∧ s.Pairwise (fun a b => a < b) ∧ ∀ i ∈ s, i < n := by
  have z := lots_n h
  simp only [lotsB, Bool.and_eq_true, List.all_eq_true, decide_eq_true_eq] at z
  obtain ⟨⟨⟨a, b⟩, c⟩, d⟩ := z.1.1 s hs
  exact ⟨a, b, (pairB_spec c).imp (fun h => of_decide_eq_true h), d⟩
theorem mN_lE {n : Nat} (h : n ≤ 8) {b : Nat} (hb : b < 2 ^ n) : mN b ∈ lE 0 n := by
  have z := lots_n h
  simp only [lotsB, Bool.and_eq_true, List.all_eq_true] at z
  have := z.1.2 b (List.mem_range.2 hb)
  simpa using this
theorem lG_sub (ap : Nat → Nat → Bool) : ∀ (d i : Nat) (b : List Nat), (lG ap b i d).Sublist (lG (fun _ _ => true) b i d)
  | 0, _, _ => .slnil
  | d + 1, i, b => by
    simp only [lG]
    refine List.Sublist.append ?_ (lG_sub ap d (i + 1) b)
    rw [if_pos (show b.all (fun _ => true) = true by simp)]
    split
    · exact .cons_cons _ (lG_sub ap d (i + 1) (b ++ [i]))
    · exact List.nil_sublist _
theorem lG_first (ap : Nat → Nat → Bool) {n : Nat} (h : n ≤ 8) : ([] :: lG ap [] 0 n).Pairwise (fun a b => rL a b = true) := by
  have z := lots_n h
  simp only [lotsB, Bool.and_eq_true] at z
  exact (pairB_spec z.2).sublist (.cons_cons _ (lG_sub ap n 0 []))
theorem lE_nil : ∀ (d i : Nat), [] ∈ lE i d
  | 0, _ => by simp [lE]
  | d + 1, i => by simp only [lE, List.mem_append]; exact .inr (lE_nil d (i + 1))
theorem lG_mem (ap : Nat → Nat → Bool) : ∀ (d i : Nat) (b x : List Nat), x ∈ lG ap b i d ↔ ∃ s ∈ lE i d, s ≠ [] ∧ okL ap b s = true ∧ x = b ++ s
  | 0, i, b, x => by simp [lG, lE]
  | d + 1, i, b, x => by
    simp only [lG, lE, List.mem_append, List.mem_map]
    constructor
    · rintro (h | h)
      · split at h
        · rename_i hf
          rcases List.mem_cons.1 h with rfl | h
          · exact ⟨[i], .inl ⟨[], lE_nil d (i + 1), rfl⟩, by simp, by simp [okL, hf], rfl⟩
          · obtain ⟨s, h1, h2, h3, rfl⟩ := (lG_mem ap d (i + 1) (b ++ [i]) x).1 h
            exact ⟨i :: s, .inl ⟨s, h1, rfl⟩, by simp, by simp only [okL, hf, h3, Bool.and_self], by simp⟩
        · simp at h
      · obtain ⟨s, h1, h2, h3, rfl⟩ := (lG_mem ap d (i + 1) b x).1 h
        exact ⟨s, .inr h1, h2, h3, rfl⟩
    · rintro ⟨s, (⟨t, ht, rfl⟩ | h1), h2, h3, rfl⟩
      · simp only [okL, Bool.and_eq_true] at h3
        refine .inl ?_
        rw [if_pos h3.1]
        by_cases e : t = []
        · subst e; simp
        · exact List.mem_cons_of_mem _ ((lG_mem ap d (i + 1) (b ++ [i]) _).2 ⟨t, ht, e, h3.2, by simp⟩)
      · exact .inr ((lG_mem ap d (i + 1) b _).2 ⟨s, h1, h2, h3, rfl⟩)
theorem okL_iff (ap : Nat → Nat → Bool) : ∀ (s b : List Nat), okL ap b s = true ↔ (∀ i ∈ s, ∀ j ∈ b, ap i j = true) ∧ s.Pairwise (fun j i => ap i j = true)
  | [], b => by simp [okL]
  | i :: s, b => by
    simp only [okL, Bool.and_eq_true, List.all_eq_true, okL_iff ap s (b ++ [i]), List.pairwise_cons, List.mem_cons, List.mem_append, List.mem_singleton]
    constructor
    · rintro ⟨h1, h2, h3⟩
      refine ⟨?_, fun k hk => h2 k hk i (.inr (by simp)), h3⟩
      rintro k (rfl | hk) j hj
      · exact h1 j hj
      · exact h2 k hk j (.inl hj)
    · rintro ⟨h1, h2, h3⟩
      refine ⟨fun j hj => h1 i (.inl rfl) j hj, ?_, h3⟩
      rintro k hk j (hj | hj)
      · exact h1 k (.inr hk) j hj
      · simp only [List.mem_cons, List.not_mem_nil, or_false] at hj
        subst hj; exact h2 k hk
/-- Are all of a list apart, as the program asks? -/
def apA (ap : Nat → Nat → Bool) (N : List Nat) : Bool := N.all fun i => N.all fun k => decide (i = k) || ap i k
theorem apA_iff (ap : Nat → Nat → Bool) : ∀ (s : List Nat), s.Pairwise (fun a b => a < b) → (∀ i ∈ s, ∀ k ∈ s, ap i k = ap k i) → (apA ap s = true ↔ s.Pairwise (fun j i => ap i j = true))
  | s, hp, hs => by
    unfold apA
    simp only [List.all_eq_true, Bool.or_eq_true, decide_eq_true_eq]
    constructor
    · intro h
      refine hp.imp_of_mem fun {a b} ha hb hab => ?_
      rcases h b hb a ha with e | e
      · omega
      · exact e
    · intro h
      have key : ∀ l : List Nat, l.Pairwise (fun j i => ap i j = true) → (∀ i ∈ l, ∀ k ∈ l, ap i k = ap k i) → ∀ i ∈ l, ∀ k ∈ l, i = k ∨ ap i k = true := by
        intro l
        induction l with
        | nil => intro _ _ i hi; simp at hi
        | cons x l ih =>
          intro hl hy i hi k hk
          rw [List.pairwise_cons] at hl
          rcases List.mem_cons.1 hi with rfl | hi'
          · rcases List.mem_cons.1 hk with rfl | hk'
            · exact .inl rfl
            · exact .inr (by rw [hy _ (by simp) _ hk]; exact hl.1 k hk')
          · rcases List.mem_cons.1 hk with rfl | hk'
            · exact .inr (hl.1 i hi')
            · exact ih hl.2 (fun a ha b hb => hy a (List.mem_cons_of_mem _ ha) b (List.mem_cons_of_mem _ hb)) i hi' k hk'
      exact key s h hs
theorem lx_trans : ∀ {a b c : List Nat}, lx a b = true → lx b c = true → lx a c = true
  | [], [], c, h, _ => by simp [lx] at h
  | [], _ :: _, [], _, h => by simp [lx] at h
  | [], _ :: _, _ :: _, _, _ => rfl
  | _ :: _, [], _, h, _ => by simp [lx] at h
  | _ :: _, _ :: _, [], _, h => by simp [lx] at h
  | x :: a, y :: b, z :: c, h, k => by
    simp only [lx, Bool.or_eq_true, Bool.and_eq_true, decide_eq_true_eq] at *
    rcases h with h | ⟨rfl, h⟩ <;> rcases k with k | ⟨rfl, k⟩
    · exact .inl (by omega)
    · exact .inl h
    · exact .inl k
    · exact .inr ⟨rfl, lx_trans h k⟩
theorem lx_irr : ∀ a : List Nat, lx a a = false
  | [] => rfl
  | x :: a => by simp [lx, lx_irr a]
theorem lx_total : ∀ {a b : List Nat}, a.length = b.length → lx a b = true ∨ a = b ∨ lx b a = true
  | [], [], _ => .inr (.inl rfl)
  | [], _ :: _, h => by simp at h
  | _ :: _, [], h => by simp at h
  | x :: a, y :: b, h => by
    simp only [lx, Bool.or_eq_true, Bool.and_eq_true, decide_eq_true_eq]
    rcases Nat.lt_trichotomy x y with e | e | e
    · exact .inl (.inl e)
    · subst e
      rcases lx_total (a := a) (b := b) (by simpa using h) with h | h | h
      · exact .inl (.inr ⟨rfl, h⟩)
      · exact .inr (.inl (by rw [h]))
      · exact .inr (.inr (.inr ⟨rfl, h⟩))
    · exact .inr (.inr (.inl e))
/-- Is a list better than another one: longer, or as long and ahead of it? -/
def btr (a b : List Nat) : Bool := decide (b.length < a.length) || (decide (a.length = b.length) && lx a b)
theorem btr_iff {a b : List Nat} : btr a b = true ↔ b.length < a.length ∨ a.length = b.length ∧ lx a b = true := by
  unfold btr; simp
theorem btr_trans {a b c : List Nat} (h : btr a b = true) (k : btr b c = true) : btr a c = true := by
  rw [btr_iff] at *
  rcases h with h | ⟨h, h'⟩ <;> rcases k with k | ⟨k, k'⟩
  · exact .inl (by omega)
  · exact .inl (by omega)
  · exact .inl (by omega)
  · exact .inr ⟨by omega, lx_trans h' k'⟩
theorem btr_total {a b : List Nat} : btr a b = true ∨ a = b ∨ btr b a = true := by
  simp only [btr_iff]
  rcases Nat.lt_trichotomy a.length b.length with e | e | e
  · exact .inr (.inr (.inl e))
  · rcases lx_total e with h | h | h
    · exact .inl (.inr ⟨e, h⟩)
    · exact .inr (.inl h)
    · exact .inr (.inr (.inr ⟨e.symm, h⟩))
  · exact .inl (.inl e)
def stS (b x : List Nat) : List Nat := if b.length < x.length then x else b
theorem foldS : ∀ (xs : List (List Nat)) (b : List Nat), (b :: xs).Pairwise (fun a c => rL a c = true) →
    (xs.foldl stS b ∈ b :: xs) ∧ ∀ x ∈ b :: xs, x.length ≤ (xs.foldl stS b).length ∧ (x.length = (xs.foldl stS b).length → x = xs.foldl stS b ∨ lx (xs.foldl stS b) x = true)
  | [], b, _ => ⟨by simp, fun x hx => by simp only [List.mem_cons, List.not_mem_nil, or_false] at hx; subst hx; exact ⟨Nat.le_refl _, fun _ => .inl rfl⟩⟩
  | y :: xs, b, hp => by
    rw [List.foldl_cons]
    have hp1 := hp
    rw [List.pairwise_cons, List.pairwise_cons] at hp1
    obtain ⟨hb, hy, hxs⟩ := hp1
    by_cases h : b.length < y.length
    · have e : stS b y = y := by unfold stS; rw [if_pos h]
      rw [e]
      obtain ⟨h1, h2⟩ := foldS xs y (by rw [List.pairwise_cons]; exact ⟨hy, hxs⟩)
      refine ⟨List.mem_cons_of_mem _ h1, fun x hx => ?_⟩
      rcases List.mem_cons.1 hx with rfl | hx
      · have := (h2 y (by simp)).1
        exact ⟨by omega, fun z => by omega⟩
      · exact h2 x hx
    · have e : stS b y = b := by unfold stS; rw [if_neg h]
      rw [e]
      obtain ⟨h1, h2⟩ := foldS xs b (by rw [List.pairwise_cons]; exact ⟨fun c hc => hb c (List.mem_cons_of_mem _ hc), hxs⟩)
      refine ⟨?_, fun x hx => ?_⟩
      · rcases List.mem_cons.1 h1 with h1 | h1
        · rw [h1]; simp
        · exact List.mem_cons_of_mem _ (List.mem_cons_of_mem _ h1)
      · rcases List.mem_cons.1 hx with rfl | hx
        · exact h2 _ (by simp)
        · rcases List.mem_cons.1 hx with rfl | hx
          · obtain ⟨l1, l2⟩ := h2 b (by simp)
            refine ⟨by omega, fun z => ?_⟩
            have eb : b.length = x.length := by omega
            have r := hb x (by simp)
            unfold rL at r
            rw [decide_eq_true eb, Bool.not_true, Bool.false_or] at r
            rcases l2 (by omega) with q | q
            · rw [← q]; exact .inr r
            · exact .inr (lx_trans q r)
          · exact h2 x (List.mem_cons_of_mem _ hx)
def stI (ap : Nat → Nat → Bool) (b : List Nat) (x : Nat) : List Nat := if apA ap (mN x) = true then (if btr (mN x) b = true then mN x else b) else b
theorem foldI (ap : Nat → Nat → Bool) : ∀ (xs : List Nat) (b : List Nat),
    (xs.foldl (stI ap) b = b ∨ ∃ x ∈ xs, apA ap (mN x) = true ∧ xs.foldl (stI ap) b = mN x) ∧ btr b (xs.foldl (stI ap) b) = false ∧ ∀ x ∈ xs, apA ap (mN x) = true → btr (mN x) (xs.foldl (stI ap) b) = false
  | [], b => ⟨.inl rfl, by simp [btr, lx_irr], by simp⟩
  | y :: xs, b => by
    rw [List.foldl_cons]
    by_cases h1 : apA ap (mN y) = true
    · by_cases h2 : btr (mN y) b = true
      · have e : stI ap b y = mN y := by unfold stI; rw [if_pos h1, if_pos h2]
        rw [e]
        obtain ⟨i1, i2, i3⟩ := foldI ap xs (mN y)
        refine ⟨.inr ?_, ?_, ?_⟩
        · rcases i1 with i1 | ⟨x, hx, h3, h4⟩
          · exact ⟨y, by simp, h1, i1⟩
          · exact ⟨x, List.mem_cons_of_mem _ hx, h3, h4⟩
        · rw [Bool.eq_false_iff]; intro z
          rw [btr_trans h2 z] at i2; cases i2
        · intro x hx hax
          rcases List.mem_cons.1 hx with rfl | hx
          · exact i2
          · exact i3 x hx hax
      · have e : stI ap b y = b := by unfold stI; rw [if_pos h1, if_neg h2]
        rw [e]
        obtain ⟨i1, i2, i3⟩ := foldI ap xs b
        refine ⟨?_, i2, ?_⟩
        · rcases i1 with i1 | ⟨x, hx, h3, h4⟩
          · exact .inl i1
          · exact .inr ⟨x, List.mem_cons_of_mem _ hx, h3, h4⟩
        · intro x hx hax
          rcases List.mem_cons.1 hx with rfl | hx
          · rw [Bool.eq_false_iff]; intro z
            rcases btr_total (a := mN x) (b := b) with q | q | q
            · exact h2 q
            · rw [q] at z; rw [z] at i2; cases i2
            · rw [btr_trans q z] at i2; cases i2
          · exact i3 x hx hax
    · have e : stI ap b y = b := by unfold stI; rw [if_neg h1]
      rw [e]
      obtain ⟨i1, i2, i3⟩ := foldI ap xs b
      refine ⟨?_, i2, ?_⟩
      · rcases i1 with i1 | ⟨x, hx, h3, h4⟩
        · exact .inl i1
        · exact .inr ⟨x, List.mem_cons_of_mem _ hx, h3, h4⟩
      · intro x hx hax
        rcases List.mem_cons.1 hx with rfl | hx
        · exact absurd hax h1
        · exact i3 x hx hax
/-- The reference and the program choose the same list. -/
theorem lots_same (ap : Nat → Nat → Bool) {n : Nat} (h : n ≤ 8) (hs : ∀ i, i < n → ∀ k, k < n → ap i k = ap k i) : (lG ap [] 0 n).foldl stS [] = (List.range (2 ^ n)).foldl (stI ap) [] := by
  obtain ⟨s1, s2⟩ := foldS (lG ap [] 0 n) [] (lG_first ap h)
  obtain ⟨i1, i2, i3⟩ := foldI ap (List.range (2 ^ n)) []
  generalize (lG ap [] 0 n).foldl stS [] = S at *
  generalize (List.range (2 ^ n)).foldl (stI ap) [] = I at *
  have good : ∀ s, s ∈ lE 0 n → (apA ap s = true ↔ okL ap [] s = true) := by
    intro s hm
    obtain ⟨_, _, hp, hl⟩ := lE_bits h hm
    rw [apA_iff ap s hp (fun i hi k hk => hs i (hl i hi) k (hl k hk)), okL_iff]
    simp
  -- the reference's choice is one of the program's lists
  have hS : ∃ x, x < 2 ^ n ∧ apA ap (mN x) = true ∧ mN x = S := by
    rcases List.mem_cons.1 s1 with rfl | s1
    · obtain ⟨a, b, _, _⟩ := lE_bits h (lE_nil n 0)
      exact ⟨bN [], a, by rw [b]; rfl, b⟩
    · obtain ⟨s, hm, _, hk, hes⟩ := (lG_mem ap n 0 [] S).1 s1
      obtain ⟨a, b, _, _⟩ := lE_bits h hm
      refine ⟨bN s, a, ?_, by rw [b, hes]; simp⟩
      rw [b]; exact (good s hm).2 hk
  -- the program's choice is one of the reference's lists
  have hI : I ∈ [] :: lG ap [] 0 n := by
    rcases i1 with rfl | ⟨x, hx, hax, rfl⟩
    · simp
    · have hm := mN_lE h (List.mem_range.1 hx)
      by_cases e : mN x = []
      · rw [e]; simp
      · exact List.mem_cons_of_mem _ ((lG_mem ap n 0 [] _).2 ⟨mN x, hm, e, (good _ hm).1 hax, by simp⟩)
  obtain ⟨x, hx, hax, rfl⟩ := hS
  obtain ⟨l1, l2⟩ := s2 I hI
  have nb := i3 x (List.mem_range.2 hx) hax
  by_cases e : I.length = (mN x).length
  · rcases l2 e with q | q
    · exact q.symm
    · have : btr (mN x) I = true := btr_iff.2 (.inr ⟨e.symm, q⟩)
      rw [this] at nb; cases nb
  · have : btr (mN x) I = true := btr_iff.2 (.inl (by omega))
    rw [this] at nb; cases nb
theorem rd_up {N : List Nat} {j : Nat} (h : j < N.length) : rd (up N) (j : Int) = ((N[j] : Nat) : Int) := by
  unfold rd up; simp [List.getD, h]
/-- May strands i and j not be on one reel? -/
def apt (ms : List Int) (l : List IS) (i j : Nat) : Bool := !may ms (rd_T32 l (i : Int)).f1 (rd_T32 l (j : Int)).f1
section
variable {m0 m1 m2 m3 m4 m5 : Int} (hm : U8 m0 m1 m2 m3 m4 m5) (l : List IS) (hl : l.length ≤ 8) (ho : ∀ x ∈ l, OkS x)
include hm hl ho
omit hl in
theorem may_at {i j : Nat} (hi : i < l.length) (hj : j < l.length) : spec_l04May.f m0 m1 m2 m3 m4 m5 (rd_T32 l (i : Int)).f0 (rd_T32 l (i : Int)).f1 (rd_T32 l (j : Int)).f0 (rd_T32 l (j : Int)).f1 = some (!apt [m0, m1, m2, m3, m4, m5] l i j) := by
  have o1 := ho l[i] (List.getElem_mem _)
  have o2 := ho l[j] (List.getElem_mem _)
  unfold OkS at o1 o2
  unfold apt
  rw [rdIS hi, rdIS hj, specMay_f m0 m1 m2 m3 m4 m5 _ _ _ _ hm o1.2 o2.2, Bool.not_not]
omit hl in
theorem mayI_at {i j : Nat} (hi : i < l.length) (hj : j < l.length) : impl_mayWind.f m0 m1 m2 m3 m4 m5 (rd_T32 l (i : Int)).f0 (rd_T32 l (i : Int)).f1 (rd_T32 l (j : Int)).f0 (rd_T32 l (j : Int)).f1 = some (!apt [m0, m1, m2, m3, m4, m5] l i j) := by
  have o1 := ho l[i] (List.getElem_mem _)
  have o2 := ho l[j] (List.getElem_mem _)
  unfold OkS at o1 o2
  unfold apt
  rw [rdIS hi, rdIS hj, implMay_f m0 m1 m2 m3 m4 m5 _ _ _ _ hm o1.2 o2.2, Bool.not_not]
omit hl in
theorem free_loop (b : List Nat) (hb : ∀ j ∈ b, j < l.length) (hbl : b.length ≤ 8) (out : List (List Int)) (i : Nat) (hi : i < l.length) (R : List (List Int)) (d : Nat) : ∀ (j : Nat) (acc : Bool), j + d = b.length →
    Ev (fun k => spec_l04Lots.l1 k l (up b) out (i : Int) (acc && (b.drop j).all (fun q => apt [m0, m1, m2, m3, m4, m5] l i q)) (b.length : Int) m0 m1 m2 m3 m4 m5) R →
    Ev (fun k => spec_l04Lots.l1 k l (up b) out (i : Int) acc (j : Int) m0 m1 m2 m3 m4 m5) R := by
  induction d with
  | zero =>
    intro j acc hj h
    have : j = b.length := by omega
    subst this
    rw [List.drop_eq_nil_of_le (by omega), List.all_nil, Bool.and_true] at h
    exact h
  | succ d ih =>
    intro j acc hj h
    have hjl : j < b.length := by omega
    have hjb := hb b[j] (List.getElem_mem _)
    have hul := up_len b
    rw [List.drop_eq_getElem_cons hjl, List.all_cons] at h
    have c0 : (j : Int) < ((up b).length : Int) := by rw [hul]; omega
    have c1 : (0 : Int) ≤ (i : Int) := by omega
    have c2 : (i : Int) < (l.length : Int) := by omega
    have c3 : (0 : Int) ≤ (j : Int) := by omega
    have c4 : (0 : Int) ≤ ((b[j] : Nat) : Int) := by omega
    have c5 : ((b[j] : Nat) : Int) < (l.length : Int) := by omega
    have w : wrap64 ((j : Int) + 1) = ((j + 1 : Nat) : Int) := by rw [wr (by omega) (by omega)]; omega
    cases acc with
    | true =>
      rw [Bool.true_and] at h
      refine Ev.step (fun k => ?_) (ih (j + 1) (apt [m0, m1, m2, m3, m4, m5] l i b[j]) (by omega) h)
      simp only [spec_l04Lots.l1, if_pos c0, if_true, if_pos c1, if_pos c2, if_pos c3, rd_up hjl, if_pos c4, if_pos c5, may_at hm l ho hi hjb, Option.bind_some, Bool.not_not, w]
    | false =>
      rw [Bool.false_and] at h
      refine Ev.step (fun k => ?_) (ih (j + 1) false (by omega) (by rw [Bool.false_and]; exact h))
      simp only [spec_l04Lots.l1, if_pos c0, Bool.false_eq_true, if_false, w]
omit hm hl ho in
theorem lG_len (ap : Nat → Nat → Bool) : ∀ (d i : Nat) (b : List Nat), (lG ap b i d).length + 1 ≤ 2 ^ d
  | 0, _, _ => by simp [lG]
  | d + 1, i, b => by
    have h1 := lG_len ap d (i + 1) (b ++ [i])
    have h2 := lG_len ap d (i + 1) b
    simp only [lG, List.length_append, Nat.pow_succ]
    split
    · simp only [List.length_cons]; omega
    · simp only [List.length_nil]; omega
omit hm hl ho in
theorem own_f (b : List Nat) (hb : b.length ≤ 9) : spec_l00Own.f (up b) = some (up b) := by
  unfold spec_l00Own.f
  have h : ([] : List Int).length + (up b).length < 17592186044416 := by rw [up_len]; simp; omega
  simp only [Option.bind_some, if_pos h, List.nil_append]
theorem lots_loop (d : Nat) : ∀ (i : Nat) (b : List Nat) (out : List (List Int)), i + d = l.length → (∀ j ∈ b, j < l.length) → b.length ≤ i → out.length ≤ 256 * (i + 1) →
    Ev (fun k => spec_l04Lots.l0 k l (up b) out (i : Int) m0 m1 m2 m3 m4 m5) (out ++ (lG (apt [m0, m1, m2, m3, m4, m5] l) b i d).map up) := by
  induction d with
  | zero =>
    intro i b out hi hb hbl hout
    refine Ev.step (f := fun _ => some out) (fun k => ?_) (ev_id (Ev.now _) (by simp [lG]))
    simp only [spec_l04Lots.l0]; rw [if_neg (by omega)]
  | succ d ih =>
    intro i b out hi hb hbl hout
    have hil : i < l.length := by omega
    have c1 : (i : Int) < (l.length : Int) := by omega
    have w : wrap64 ((i : Int) + 1) = ((i + 1 : Nat) : Int) := by rw [wr (by omega) (by omega)]; omega
    have hul := up_len b
    have p2 : 2 ^ d ≤ 2 ^ 7 := Nat.pow_le_pow_right (by decide) (by omega)
    have gl := lG_len (apt [m0, m1, m2, m3, m4, m5] l) d (i + 1) (b ++ [i])
    refine Ev.step (fun k => by simp only [spec_l04Lots.l0, if_pos c1]; rfl) (free_loop hm l ho b hb (by omega) out i hil _ b.length 0 true (by omega) ?_)
    rw [List.drop_zero, Bool.true_and]
    have nl : ¬ (b.length : Int) < ((up b).length : Int) := by rw [hul]; omega
    simp only [lG]
    cases hf : b.all (fun q => apt [m0, m1, m2, m3, m4, m5] l i q) with
    | true =>
      simp only [if_true]
      have hb2 : ∀ j ∈ b ++ [i], j < l.length := by
        intro j hj
        rcases List.mem_append.1 hj with hj | hj
        · exact hb j hj
        · rw [List.mem_singleton.1 hj]; exact hil
      have e1 := ih (i + 1) (b ++ [i]) [up (b ++ [i])] (by omega) hb2 (by simp; omega) (by simp; omega)
      have e2 : Ev (fun k => spec_l04Lots.f k m0 m1 m2 m3 m4 m5 l (up b ++ [(i : Int)]) ((i + 1 : Nat) : Int)) ([up (b ++ [i])] ++ (lG (apt [m0, m1, m2, m3, m4, m5] l) (b ++ [i]) (i + 1) d).map up) := by
        have eu : up b ++ [(i : Int)] = up (b ++ [i]) := by rw [up_app]; rfl
        rw [eu]
        refine Ev.step (fun k => ?_) e1
        simp only [spec_l04Lots.f, own_f (b ++ [i]) (by simp; omega), Option.bind_some]
      have hlen : (up b).length < 17592186044416 := by rw [hul]; omega
      refine Ev.step (fun k => by simp only [spec_l04Lots.l1, if_neg nl, if_true, own_f b (by omega), Option.bind_some, if_pos hlen, w]; rfl) (Ev.bind e2 ?_)
      have hl2 : out.length + ([up (b ++ [i])] ++ (lG (apt [m0, m1, m2, m3, m4, m5] l) (b ++ [i]) (i + 1) d).map up).length < 5864062014805 := by simp; omega
      simp only [if_pos hl2]
      refine ev_id (ih (i + 1) b (out ++ ([up (b ++ [i])] ++ (lG (apt [m0, m1, m2, m3, m4, m5] l) (b ++ [i]) (i + 1) d).map up)) (by omega) hb (by omega) (by simp; omega)) ?_
      simp
    | false =>
      simp only [Bool.false_eq_true, if_false, List.nil_append]
      refine Ev.step (fun k => ?_) (ih (i + 1) b out (by omega) hb (by omega) (by omega))
      simp only [spec_l04Lots.l1, if_neg nl, Bool.false_eq_true, if_false, w]
theorem lots_ev : Ev (fun k => spec_l04Lots.f k m0 m1 m2 m3 m4 m5 l [] 0) (([] :: lG (apt [m0, m1, m2, m3, m4, m5] l) [] 0 l.length).map up) := by
  have e1 := lots_loop hm l hl ho l.length 0 [] [[]] (by omega) (by simp) (by simp) (by simp)
  refine Ev.step (fun k => ?_) e1
  have := own_f [] (by simp)
  simp only [spec_l04Lots.f]
  have e : spec_l00Own.f ([] : List Int) = some [] := this
  rw [e]; rfl
omit hl in
theorem apart_f (N : List Nat) (hN : ∀ i ∈ N, i < l.length) (hNl : N.length ≤ 8) : impl_areAll_int64.f (up N) (fun x_ => impl_LotsApart_1.f x_ (up N) m0 m1 m2 m3 m4 m5 l) = some (apA (apt [m0, m1, m2, m3, m4, m5] l) N) := by
  have hul := up_len N
  have inner : ∀ i ∈ N, impl_LotsApart_1.f (i : Int) (up N) m0 m1 m2 m3 m4 m5 l = some (N.all fun k => decide (i = k) || apt [m0, m1, m2, m3, m4, m5] l i k) := by
    intro i hi
    have hil := hN i hi
    have c1 : (0 : Int) ≤ (i : Int) := by omega
    have c2 : (i : Int) < (l.length : Int) := by omega
    unfold impl_LotsApart_1.f
    have e : impl_areAll_int64.f (up N) (fun x_ => impl_LotsApart_1_1.f x_ (i : Int) m0 m1 m2 m3 m4 m5 l) = some ((up N).all fun x => decide ((i : Int) = x) || apt [m0, m1, m2, m3, m4, m5] l i x.toNat) := by
      show allG (up N) _ = _
      refine allG_on _ _ _ (by rw [hul]; omega) fun x hx => ?_
      obtain ⟨k, hk, rfl⟩ := List.mem_map.1 hx
      have hkl := hN k hk
      have c3 : (0 : Int) ≤ (k : Int) := by omega
      have c4 : (k : Int) < (l.length : Int) := by omega
      unfold impl_LotsApart_1_1.f
      by_cases e : (i : Int) = (k : Int)
      · rw [if_pos e, decide_eq_true e, Bool.true_or]
      · rw [if_neg e, if_pos c1, if_pos c2, if_pos c3, if_pos c4, mayI_at hm l ho hil hkl, decide_eq_false e, Bool.false_or]
        simp
    rw [e]
    simp only [Option.bind_some, up, List.all_map]
    congr 2
    funext k
    simp only [Function.comp_apply, Int.toNat_natCast]
    congr 1
    by_cases e : i = k
    · subst e; simp
    · have : ¬ (i : Int) = (k : Int) := by omega
      simp [e, this]
  have e : impl_areAll_int64.f (up N) (fun x_ => impl_LotsApart_1.f x_ (up N) m0 m1 m2 m3 m4 m5 l) = some ((up N).all fun x => N.all fun k => decide (x.toNat = k) || apt [m0, m1, m2, m3, m4, m5] l x.toNat k) := by
    show allG (up N) _ = _
    refine allG_on _ _ _ (by rw [hul]; omega) fun x hx => ?_
    obtain ⟨k, hk, rfl⟩ := List.mem_map.1 hx
    rw [Int.toNat_natCast]; exact inner k hk
  rw [e]
  unfold apA
  simp only [up, List.all_map]
  congr 2
end
theorem pick_loop (all : List (List Nat)) (hall : all.length ≤ 256) (d : Nat) : ∀ (i : Nat) (b : List Nat), i + d = all.length →
    Ev (fun k => spec_LotsApart.l0 k (all.map up) (up b) (i : Int)) (up ((all.drop i).foldl stS b), 0) := by
  induction d with
  | zero =>
    intro i b hi
    refine Ev.step (f := fun _ => some (up b, 0)) (fun k => ?_) (ev_id (Ev.now _) ?_)
    · simp only [spec_LotsApart.l0]; rw [if_neg (by simp; omega)]
    · rw [List.drop_eq_nil_of_le (by omega)]; rfl
  | succ d ih =>
    intro i b hi
    have hil : i < all.length := by omega
    have c1 : (i : Int) < ((all.map up).length : Int) := by simp; omega
    have c2 : (0 : Int) ≤ (i : Int) := by omega
    have r : rd_L8 (all.map up) (i : Int) = up all[i] := by unfold rd_L8; simp [List.getD, hil]
    have w : wrap64 ((i : Int) + 1) = ((i + 1 : Nat) : Int) := by rw [wr (by omega) (by omega)]; omega
    have u1 := up_len all[i]
    have u2 := up_len b
    rw [List.drop_eq_getElem_cons hil, List.foldl_cons]
    by_cases h : b.length < all[i].length
    · have e : stS b all[i] = all[i] := by unfold stS; rw [if_pos h]
      rw [e]
      refine Ev.step (fun k => ?_) (ih (i + 1) all[i] (by omega))
      simp only [spec_LotsApart.l0, r, u1, u2, if_pos c1, if_pos c2, w]
      rw [if_pos (by omega)]
    · have e : stS b all[i] = b := by unfold stS; rw [if_neg h]
      rw [e]
      refine Ev.step (fun k => ?_) (ih (i + 1) b (by omega))
      simp only [spec_LotsApart.l0, r, u1, u2, if_pos c1, if_pos c2, w]
      rw [if_neg (by omega)]
theorem mem_bf : ∀ b : Nat, b < 256 → impl_members.f 12 (b : Int) = some (up (mN b)) := by decide +kernel
theorem members_ev {b : Nat} (h : b < 256) : Ev (fun k => impl_members.f k (b : Int)) (up (mN b)) :=
  ⟨12, fun k hk => at_rounds (fun k => impl_members.mono (b : Int) k) hk (mem_bf b h)⟩
theorem shl_bf : ∀ n : Nat, n < 9 → shl .i64 1 (n : Int) = ((2 ^ n : Nat) : Int) := by decide +kernel
/-- What slices.Compare answers. -/
def cmpV : List Nat → List Nat → Int
  | x :: a, y :: b => if x < y then -1 else if y < x then 1 else cmpV a b
  | [], _ :: _ => -1
  | _ :: _, [] => 1
  | [], [] => 0
theorem cmpV_lx : ∀ a b : List Nat, cmpV a b < 0 ↔ lx a b = true
  | [], [] => by simp [cmpV, lx]
  | [], _ :: _ => by simp [cmpV, lx]
  | _ :: _, [] => by simp [cmpV, lx]
  | x :: a, y :: b => by
    simp only [cmpV, lx, Bool.or_eq_true, Bool.and_eq_true, decide_eq_true_eq]
    rcases Nat.lt_trichotomy x y with e | e | e
    · rw [if_pos e]; simp [e]
    · subst e
      rw [if_neg (by omega), if_neg (by omega), cmpV_lx a b]
      simp
    · rw [if_neg (by omega), if_pos e]
      constructor
      · intro h; omega
      · rintro (h | ⟨h, _⟩) <;> omega
theorem compare_loop (a b : List Nat) (ha : a.length ≤ 8) (hb : b.length ≤ 8) (d : Nat) : ∀ (i : Nat), i + d = a.length → i ≤ b.length →
    Ev (fun k => slices_Compare_int64_int64.l0 k (up a) (up b) (up a) (a.length : Int) (i : Int)) (cmpV (a.drop i) (b.drop i)) := by
  induction d with
  | zero =>
    intro i hi hib
    have u1 := up_len a
    have u2 := up_len b
    rw [show a.drop i = [] from List.drop_eq_nil_of_le (by omega)]
    refine Ev.step (f := fun _ => some (cmpV [] (b.drop i))) (fun k => ?_) (Ev.now _)
    simp only [slices_Compare_int64_int64.l0, u1, u2]
    rw [if_neg (by omega)]
    by_cases h : a.length < b.length
    · have hi2 : i < b.length := by omega
      rw [if_pos (by omega), List.drop_eq_getElem_cons hi2]; rfl
    · rw [if_neg (by omega), List.drop_eq_nil_of_le (by omega)]; rfl
  | succ d ih =>
    intro i hi hib
    have hil : i < a.length := by omega
    have u1 := up_len a
    have u2 := up_len b
    have c1 : (i : Int) < (a.length : Int) := by omega
    have c2 : (0 : Int) ≤ (i : Int) := by omega
    rw [List.drop_eq_getElem_cons hil]
    by_cases hb2 : i < b.length
    · rw [List.drop_eq_getElem_cons hb2]
      have c3 : ¬ (i : Int) ≥ (b.length : Int) := by omega
      have c4 : (i : Int) < (b.length : Int) := by omega
      have cmp : cmp_Compare_int64.f ((a[i] : Nat) : Int) ((b[i] : Nat) : Int) = some (if a[i] < b[i] then -1 else if b[i] < a[i] then 1 else 0) := by
        unfold cmp_Compare_int64.f cmp_isNaN_int64.f
        simp only [bne_self_eq_false, Option.bind_some, Bool.false_eq_true, if_false]
        by_cases x : a[i] < b[i]
        · rw [if_pos (by omega), if_pos x]
        · rw [if_neg (by omega), if_neg x]
          by_cases y : b[i] < a[i]
          · rw [if_pos (by omega), if_pos y]
          · rw [if_neg (by omega), if_neg y]
      simp only [cmpV]
      by_cases x : a[i] < b[i]
      · rw [if_pos x]
        rw [if_pos x] at cmp
        refine Ev.step (f := fun _ => some (-1)) (fun k => ?_) (Ev.now _)
        simp only [slices_Compare_int64_int64.l0, u1, u2, if_pos c1, if_pos c2, if_neg c3, if_pos c4, rd_up hil, rd_up hb2, cmp, Option.bind_some]
        rfl
      · rw [if_neg x]
        rw [if_neg x] at cmp
        by_cases y : b[i] < a[i]
        · rw [if_pos y]
          rw [if_pos y] at cmp
          refine Ev.step (f := fun _ => some 1) (fun k => ?_) (Ev.now _)
          simp only [slices_Compare_int64_int64.l0, u1, u2, if_pos c1, if_pos c2, if_neg c3, if_pos c4, rd_up hil, rd_up hb2, cmp, Option.bind_some]
          rfl
        · rw [if_neg y]
          rw [if_neg y] at cmp
          refine Ev.step (fun k => ?_) (ih (i + 1) (by omega) (by omega))
          simp only [slices_Compare_int64_int64.l0, u1, u2, if_pos c1, if_pos c2, if_neg c3, if_pos c4, rd_up hil, rd_up hb2, cmp, Option.bind_some, if_true]
          rw [wr (n := (i : Int) + 1) (by omega) (by omega)]; rfl
    · rw [show b.drop i = [] from List.drop_eq_nil_of_le (by omega)]
      have c3 : (i : Int) ≥ (b.length : Int) := by omega
      refine Ev.step (f := fun _ => some 1) (fun k => ?_) (Ev.now _)
      simp only [slices_Compare_int64_int64.l0, u1, u2, if_pos c1, if_pos c2, if_pos c3]
theorem compare_ev (a b : List Nat) (ha : a.length ≤ 8) (hb : b.length ≤ 8) : Ev (fun k => slices_Compare_int64_int64.f k (up a) (up b)) (cmpV a b) := by
  unfold slices_Compare_int64_int64.f
  have := compare_loop a b ha hb a.length 0 (by omega) (by omega)
  rw [up_len]
  simpa using this
theorem mN_len (b : Nat) : (mN b).length ≤ 8 := by
  unfold mN
  exact Nat.le_trans (List.length_filter_le _ _) (by simp)
theorem best_loop {m0 m1 m2 m3 m4 m5 : Int} (hm : U8 m0 m1 m2 m3 m4 m5) (l : List IS) (hl : l.length ≤ 8) (ho : ∀ x ∈ l, OkS x) (d : Nat) : ∀ (b : Nat) (best : List Nat), b + d = 2 ^ l.length → best.length ≤ 8 →
    Ev (fun k => impl_LotsApart.l0 k (up best) ((2 ^ l.length : Nat) : Int) (b : Int) m0 m1 m2 m3 m4 m5 l) (up ((List.range' b d).foldl (stI (apt [m0, m1, m2, m3, m4, m5] l)) best), 0) := by
  have p2 : 2 ^ l.length ≤ 2 ^ 8 := Nat.pow_le_pow_right (by decide) hl
  induction d with
  | zero =>
    intro b best hb hbest
    refine Ev.step (f := fun _ => some (up best, 0)) (fun k => ?_) (ev_id (Ev.now _) (by simp))
    simp only [impl_LotsApart.l0]; rw [if_neg (by omega)]
  | succ d ih =>
    intro b best hb hbest
    have hb2 : b < 2 ^ l.length := by omega
    have c1 : (b : Int) < ((2 ^ l.length : Nat) : Int) := by omega
    have w : wrap64 ((b : Int) + 1) = ((b + 1 : Nat) : Int) := by rw [wr (by omega) (by omega)]; omega
    obtain ⟨_, _, _, hlt⟩ := lE_bits hl (mN_lE hl hb2)
    have ap := apart_f hm l ho (mN b) hlt (mN_len b)
    have u1 := up_len (mN b)
    have u2 := up_len best
    rw [List.range'_succ, List.foldl_cons]
    refine Ev.step (fun k => by simp only [impl_LotsApart.l0, if_pos c1]; rfl) (Ev.bind (members_ev (b := b) (by omega)) ?_)
    simp only [ap, Option.bind_some, u1, u2, w]
    cases ha : apA (apt [m0, m1, m2, m3, m4, m5] l) (mN b) with
    | false =>
      have e : stI (apt [m0, m1, m2, m3, m4, m5] l) best b = best := by unfold stI; rw [ha]; rfl
      rw [e]
      simp only [Bool.false_eq_true, if_false]
      exact ih (b + 1) best (by omega) hbest
    | true =>
      simp only [if_true]
      have e : stI (apt [m0, m1, m2, m3, m4, m5] l) best b = if btr (mN b) best = true then mN b else best := by unfold stI; rw [ha, if_pos rfl]
      rw [e]
      by_cases h1 : best.length < (mN b).length
      · rw [if_pos (btr_iff.2 (.inl h1))]
        have h1' : ((mN b).length : Int) > (best.length : Int) := by omega
        simp only [if_pos h1']
        exact ih (b + 1) (mN b) (by omega) (mN_len b)
      · have h1' : ¬ ((mN b).length : Int) > (best.length : Int) := by omega
        simp only [if_neg h1']
        by_cases h2 : (mN b).length = best.length
        · have h2' : ((mN b).length : Int) = (best.length : Int) := by omega
          simp only [if_pos h2']
          refine Ev.bind (compare_ev (mN b) best (mN_len b) hbest) ?_
          by_cases h3 : lx (mN b) best = true
          · rw [if_pos (btr_iff.2 (.inr ⟨h2, h3⟩))]
            simp only [if_pos ((cmpV_lx _ _).2 h3)]
            exact ih (b + 1) (mN b) (by omega) (mN_len b)
          · have nb : ¬ btr (mN b) best = true := by
              rw [btr_iff]; rintro (q | ⟨_, q⟩)
              · exact h1 q
              · exact h3 q
            rw [if_neg nb]
            simp only [if_neg (fun q => h3 ((cmpV_lx _ _).1 q))]
            exact ih (b + 1) best (by omega) hbest
        · have h2' : ¬ ((mN b).length : Int) = (best.length : Int) := by omega
          have nb : ¬ btr (mN b) best = true := by
            rw [btr_iff]; rintro (q | ⟨q, _⟩)
            · exact h1 q
            · exact h2 q
          rw [if_neg nb]
          simp only [if_neg h2']
          exact ih (b + 1) best (by omega) hbest
theorem LotsApart_same {m0 m1 m2 m3 m4 m5 : Int} (hm : U8 m0 m1 m2 m3 m4 m5) (l : List LS) (hl : (l.length : Int) ≤ 1048576) (hw : ∀ x ∈ l, (Lit.int .i16 x.f0).wf = true ∧ (Lit.int .u8 x.f1).wf = true) :
    ∃ q : List Int × Int, Ev (fun k => spec_LotsApart.f k m0 m1 m2 m3 m4 m5 (l.map toS)) q ∧ Ev (fun k => impl_LotsApart.f k m0 m1 m2 m3 m4 m5 (l.map toS)) q ∧ (q.1.length : Int) ≤ 8 := by
  have hl' : ((l.map toS).length : Int) ≤ 1048576 := by simpa using hl
  have c1 := specCode_ev (m0 := m0) (m1 := m1) (m2 := m2) (m3 := m3) (m4 := m4) (m5 := m5) (l.map toS) (by omega) true
  have c2 := implCode_ev hm 1 (l.map toS) (by omega) true
  have e1 : (decide ((1 : Int) ≤ 1 ∧ (1 : Int) ≤ 2000) && true) = true := by decide
  rw [e1] at c2
  unfold spec_LotsApart.f impl_LotsApart.f
  by_cases hc : codeS m0 m1 m2 m3 m4 m5 (l.map toS) true = 0
  · rw [hc] at c1 c2
    obtain ⟨ok, hv, h8, _⟩ := codeS_ok hc
    have ho := okS_of hw hv
    have h8' : (l.map toS).length ≤ 8 := by omega
    generalize l.map toS = L at *
    have p2 : 2 ^ L.length ≤ 2 ^ 8 := Nat.pow_le_pow_right (by decide) h8'
    have hs : ∀ i, i < L.length → ∀ k, k < L.length → apt [m0, m1, m2, m3, m4, m5] L i k = apt [m0, m1, m2, m3, m4, m5] L k i := by
      intro i hi k hk
      have o1 := ho L[i] (List.getElem_mem _)
      have o2 := ho L[k] (List.getElem_mem _)
      unfold OkS at o1 o2
      unfold apt
      rw [rdIS hi, rdIS hk, may_sym hm ok o1.2 o2.2]
    have same := lots_same (apt [m0, m1, m2, m3, m4, m5] L) h8' hs
    have gl := lG_len (apt [m0, m1, m2, m3, m4, m5] L) L.length 0 []
    have B := best_loop hm L h8' ho (2 ^ L.length) 0 [] (by omega) (by simp)
    have P := pick_loop ([] :: lG (apt [m0, m1, m2, m3, m4, m5] L) [] 0 L.length) (by simp; omega) (lG (apt [m0, m1, m2, m3, m4, m5] L) [] 0 L.length).length 1 [] (by simp; omega)
    rw [← List.range_eq_range', ← same] at B
    simp only [List.drop_succ_cons, List.drop_zero] at P
    refine ⟨(up ((lG (apt [m0, m1, m2, m3, m4, m5] L) [] 0 L.length).foldl stS []), 0), Ev.bind c1 ?_, Ev.bind c2 ?_, ?_⟩
    · simp only [if_true]
      refine Ev.bind (lots_ev hm L h8' ho) ?_
      have hp : 0 < ((([] :: lG (apt [m0, m1, m2, m3, m4, m5] L) [] 0 L.length).map up).length : Int) := by simp
      simp only [if_pos hp]
      exact P
    · simp only [if_true]
      rw [shl_bf L.length (by omega)]
      exact B
    · simp only [up_len]
      obtain ⟨i1, _, _⟩ := foldI (apt [m0, m1, m2, m3, m4, m5] L) (List.range (2 ^ L.length)) []
      rw [same]
      rcases i1 with i1 | ⟨x, _, _, i1⟩
      · rw [i1]; simp
      · rw [i1]; have := mN_len x; omega
  · refine ⟨([], codeS m0 m1 m2 m3 m4 m5 (l.map toS) true), Ev.bind c1 ?_, Ev.bind c2 ?_, by simp⟩
    · simp only [if_neg hc]; exact Ev.now _
    · simp only [if_neg hc]; exact Ev.now _
theorem FnExactLotsApart : laws_FnExactLotsApart.Pure := by
  intro m0 m1 m2 m3 m4 m5 l h0 h1 h2 h3 h4 h5 ⟨hl, hw⟩
  refine Ev.rounds ?_
  have hm := U8.mk h0 h1 h2 h3 h4 h5
  unfold laws_FnExactLotsApart.f
  simp only [szStrand_f l 1048576 (by omega) (by omega), Option.bind_some]
  by_cases h : (l.length : Int) ≤ 1048576
  · have hn : ¬ (1048576 - (l.length : Int) < 0) := by omega
    simp only [if_pos h, if_neg hn]
    have ts := toStrandS_ev l (by omega) (by omega)
    have t : laws_toMeets.f m0 m1 m2 m3 m4 m5 = some (m0, m1, m2, m3, m4, m5) := rfl
    obtain ⟨⟨w, c⟩, f1, f2, fl⟩ := LotsApart_same hm l h hw
    have hw : (w.length : Int) ≤ 4611686018427387904 := by simp only at fl; omega
    obtain ⟨s, m1, m2⟩ := markInt64S_ev w hw
    obtain ⟨s2, n2⟩ := markStrandS_ev (l.map toS) (by simp; omega)
    have hneg1 : ¬ (1 + 2 * ((l.map toS).length : Int) < 0) := by omega
    have hneg2 : ¬ (1 + (w.length : Int) < 0) := by omega
    simp only [t, Option.bind_some]
    refine Ev.bind ts (Ev.bind f1 (Ev.bind ts (Ev.bind f2 (Ev.bind (eqInt64S_self w hw) ?_))))
    simp only [if_true, bne_self_eq_false]
    refine Ev.step (fun k => by simp only [laws_FnExactLotsApart.j0, Bool.false_eq_true, if_false]; rfl) (Ev.bind ts (Ev.bind (eqStrandS_self (l.map toS) (by simp; omega)) ?_))
    simp only [if_true]
    refine Ev.bind n2 ?_
    simp only [if_neg hneg1]
    refine Ev.bind (eqInt64S_self w hw) ?_
    simp only [if_true, bne_self_eq_false]
    refine Ev.step (fun k => by simp only [laws_FnExactLotsApart.j1, Bool.false_eq_true, if_false]; rfl) (Ev.bind m1 (Ev.bind m2 ?_))
    simp only [if_neg hneg2, if_true, t, Option.bind_some]
    refine Ev.bind ts (Ev.bind f2 (Ev.bind (eqInt64S_self w hw) ?_))
    simp only [if_true, bne_self_eq_false]
    refine Ev.step (fun k => by simp only [laws_FnExactLotsApart.j2, Bool.false_eq_true, if_false]; rfl) (Ev.bind m2 ?_)
    simp only [if_neg hneg2, if_true]; exact Ev.now _
  · simp only [if_neg h, show ((-1 : Int) < 0) from by omega, if_true]; exact Ev.now _
end Go.Proofs.Ytfkckobfpfkbjaa.Pure
