/- The program's FirstReels and the reference's give the same answer at all meets, holds and strands; no conditions. -/
import Derived.Test.YtjhafhejdlmcmaaXFnExactFirstReelsx8
namespace Go.Proofs.Ytjhafhejdlmcmaa.Pure
open Go.RowKit Go.Proofs.Ytjhafhejdlmcmaa.XFnExactFirstReels Go.Proofs.YtjhafhejdlmcmaaW.PrintWords Go.Proofs.YtjhafhejdlmcmaaW.PrintLast
set_option linter.unusedVariables false
set_option linter.unusedSimpArgs false
theorem wr {n : Int} (h0 : -9223372036854775808 ≤ n) (h1 : n ≤ 9223372036854775807) : wrap64 n = n := by
  unfold wrap64; omega
theorem wf64 {a : Int} (h : (Lit.int .i64 a).wf = true) : -9223372036854775808 ≤ a ∧ a ≤ 9223372036854775807 := by
  simp only [Lit.wf, IntKind.min, IntKind.max, IntKind.signed, IntKind.bits, Bool.and_eq_true, decide_eq_true_eq, if_true] at h
  omega
theorem ev_id {α : Type} {g : Nat → Option α} {r s : α} (h : Ev g r) (e : r = s) : Ev g s := e ▸ h
theorem ev_const {α : Type} {o : Option α} {r : α} (h : o = some r) : Ev (fun _ => o) r := ⟨0, fun _ _ => h⟩
theorem ev_fun {α : Type} {g : Nat → Option α} {r s : α} (h : Ev g r) (k : Ev g s) : r = s := by
  obtain ⟨a, h⟩ := h
  obtain ⟨b, k⟩ := k
  have x := h (max a b) (by omega)
  have y := k (max a b) (by omega)
  rw [x] at y; exact Option.some.inj y
/-- Both come to one answer. -/
def Same {α : Type} (g f : Nat → Option α) : Prop := ∃ r, Ev g r ∧ Ev f r
theorem Same.step {α : Type} {g f g' f' : Nat → Option α} (hg : ∀ k, g (k + 1) = g' k) (hf : ∀ k, f (k + 1) = f' k) (h : Same g' f') : Same g f := by
  obtain ⟨r, a, b⟩ := h
  exact ⟨r, Ev.step hg a, Ev.step hf b⟩
theorem Same.left {α : Type} {g f g' : Nat → Option α} (hg : ∀ k, g (k + 1) = g' k) (h : Same g' f) : Same g f := by
  obtain ⟨r, a, b⟩ := h
  exact ⟨r, Ev.step hg a, b⟩
theorem Same.right {α : Type} {g f f' : Nat → Option α} (hf : ∀ k, f (k + 1) = f' k) (h : Same g f') : Same g f := by
  obtain ⟨r, a, b⟩ := h
  exact ⟨r, a, Ev.step hf b⟩
theorem Same.now {α : Type} (r : α) : Same (fun _ => some r) (fun _ => some r) := ⟨r, Ev.now r, Ev.now r⟩
theorem if_dec {α : Type} {p : Prop} [Decidable p] (a b : α) : (if decide p = true then a else b) = if p then a else b := by
  by_cases h : p <;> simp [h]
theorem w00 : wrap64 0 = 0 := wr (by omega) (by omega)
theorem l00In_f (a b c : Int) : spec_l00In.f a b c = some (decide (b ≤ a ∧ a ≤ c)) := by
  unfold spec_l00In.f
  by_cases h : b ≤ a <;> simp [h]
theorem within_f (a b c : Int) : impl_within.f a b c = some (decide (b ≤ a ∧ a ≤ c)) := by
  unfold impl_within.f
  by_cases h : b ≤ a <;> simp [h]
theorem rd_lt {l : List Int} {i : Nat} (h : i < l.length) : rd l (i : Int) = l[i] := by
  unfold rd; simp [List.getD, h]
theorem eqInt64S_loop (a b : List Int) (hab : a.length = b.length) (hn : (a.length : Int) ≤ 4611686018427387904) (d : Nat) : ∀ (i : Nat), i ≤ a.length → a.length - i = d →
    Ev (fun k => laws_eqInt64S.l0 k a b (i : Int)) (decide (a.drop i = b.drop i)) := by
  induction d with
  | zero =>
    intro i hi hd
    refine Ev.step (f := fun _ => some (decide (a.drop i = b.drop i))) (fun k => ?_) (Ev.now _)
    simp only [laws_eqInt64S.l0]
    rw [if_neg (by omega), List.drop_eq_nil_of_le (by omega), List.drop_eq_nil_of_le (by omega)]; simp
  | succ d ih =>
    intro i hi hd
    have ha : i < a.length := by omega
    have hb : i < b.length := by omega
    by_cases e : a[i] = b[i]
    · refine Ev.step (fun k => ?_) (ev_id (ih (i + 1) (by omega) (by omega)) ?_)
      · simp only [laws_eqInt64S.l0]
        rw [if_pos (by omega), if_pos (by omega), if_pos (by omega), rd_lt ha, rd_lt hb, if_pos e, wr (by omega) (by omega)]; rfl
      · simp only [List.drop_eq_getElem_cons ha, List.drop_eq_getElem_cons hb, List.cons.injEq, e, true_and]
    · refine Ev.step (f := fun _ => some false) (fun k => ?_) (ev_id (Ev.now _) ?_)
      · simp only [laws_eqInt64S.l0]
        rw [if_pos (by omega), if_pos (by omega), if_pos (by omega), rd_lt ha, rd_lt hb, if_neg e]
      · simp only [List.drop_eq_getElem_cons ha, List.drop_eq_getElem_cons hb, List.cons.injEq, e, false_and, decide_false]
theorem eqInt64S_ev (a b : List Int) (hn : (a.length : Int) ≤ 4611686018427387904) : Ev (fun k => laws_eqInt64S.f k a b) (decide (a = b)) := by
  unfold laws_eqInt64S.f
  by_cases h : a.length = b.length
  · simp only [h, if_true]
    simpa using eqInt64S_loop a b h hn a.length 0 (by omega) (by omega)
  · have h' : ¬ (a.length : Int) = b.length := by omega
    simp only [if_neg h']
    have : a ≠ b := fun e => h (by rw [e])
    simpa [this] using Ev.now false
theorem eqInt64S_self (a : List Int) (hn : (a.length : Int) ≤ 4611686018427387904) : Ev (fun k => laws_eqInt64S.f k a a) true := by
  simpa using eqInt64S_ev a a hn
theorem markInt64S_loop (d : Nat) : ∀ (a p : List Int) (m : Int) (i : Nat), i + d = a.length → (a.length : Int) ≤ 4611686018427387904 → m = 1 + i → (∀ j (h : j < a.length), j < i → a[j] = 1 + (j : Int)) →
    ∃ r : List Int, Ev (fun k => laws_markInt64S.l0 k a m (i : Int)) (1 + (a.length : Int), r) ∧ r.length = a.length ∧ ∀ j (h : j < r.length), r[j] = 1 + (j : Int) := by
  induction d with
  | zero =>
    intro a p m i hi hn hm ha
    refine ⟨a, Ev.step (f := fun _ => some (1 + (a.length : Int), a)) (fun k => ?_) (Ev.now _), rfl, fun j h => ha j h (by omega)⟩
    simp only [laws_markInt64S.l0]
    rw [if_neg (by omega), show m = 1 + (a.length : Int) by omega]
  | succ d ih =>
    intro a p m i hi hn hm ha
    obtain ⟨r, h1, h2, h3⟩ := ih (a.set i m) p (m + 1) (i + 1) (by simp; omega) (by simpa using hn) (by omega) (by
      intro j h hj
      simp only [List.getElem_set]
      split
      · omega
      · exact ha j (by simpa using h) (by omega))
    simp only [List.length_set] at h1 h2
    refine ⟨r, Ev.step (fun k => ?_) h1, h2, h3⟩
    simp only [laws_markInt64S.l0]
    rw [if_pos (by omega), if_pos (by omega), wr (n := m + 1) (by omega) (by omega), wr (n := (i : Int) + 1) (by omega) (by omega)]; rfl
theorem heldInt64S_loop (a : List Int) (hn : (a.length : Int) ≤ 4611686018427387904) (ha : ∀ j (h : j < a.length), a[j] = 1 + (j : Int)) (d : Nat) : ∀ (i : Nat), i + d = a.length →
    Ev (fun k => laws_heldInt64S.l0 k a (1 + (i : Int)) (i : Int)) (1 + (a.length : Int)) := by
  induction d with
  | zero =>
    intro i hi
    refine Ev.step (f := fun _ => some (1 + (a.length : Int))) (fun k => ?_) (Ev.now _)
    simp only [laws_heldInt64S.l0]
    rw [if_neg (by omega), show i = a.length by omega]
  | succ d ih =>
    intro i hi
    refine Ev.step (fun k => ?_) (ih (i + 1) (by omega))
    simp only [laws_heldInt64S.l0]
    rw [if_pos (by omega), if_pos (by omega), rd_lt (by omega), if_pos (ha i (by omega)), wr (n := 1 + (i : Int) + 1) (by omega) (by omega), wr (n := (i : Int) + 1) (by omega) (by omega), show 1 + (i : Int) + 1 = 1 + ((i + 1 : Nat) : Int) by omega]; rfl
/-- What has been marked is held. -/
theorem markInt64S_ev (a : List Int) (hn : (a.length : Int) ≤ 4611686018427387904) :
    ∃ r : List Int, Ev (fun k => laws_markInt64S.f k a 1) (1 + (a.length : Int), r) ∧ Ev (fun k => laws_heldInt64S.f k r 1) (1 + (a.length : Int)) := by
  obtain ⟨r, h1, h2, h3⟩ := markInt64S_loop a.length a a 1 0 (by omega) hn (by omega) (fun j h hj => by omega)
  refine ⟨r, h1, ?_⟩
  have := heldInt64S_loop r (by omega) h3 r.length 0 (by omega)
  rw [h2] at this
  exact this
theorem allO_some {α : Type} (p : α → Bool) : ∀ l : List α, allO (fun x => some (p x)) l = some (l.all p)
  | [] => rfl
  | x :: l => by
    simp only [allO, Option.bind_some, List.all_cons, allO_some p l]
    cases p x <;> simp
theorem allG_some {α : Type} (p : α → Bool) (l : List α) (h : (l.length : Int) ≤ 4611686018427387904) : allG l (fun x => some (p x)) = some (l.all p) := by
  unfold allG; rw [if_pos h, allO_some]
theorem allO_on {α : Type} (q : α → Option Bool) (p : α → Bool) : ∀ l : List α, (∀ x ∈ l, q x = some (p x)) → allO q l = some (l.all p)
  | [], _ => rfl
  | x :: l, h => by
    simp only [allO, h x (by simp), Option.bind_some, List.all_cons, allO_on q p l (fun y hy => h y (List.mem_cons_of_mem _ hy))]
    cases p x <;> simp
theorem allG_on {α : Type} (q : α → Option Bool) (p : α → Bool) (l : List α) (hl : (l.length : Int) ≤ 4611686018427387904) (h : ∀ x ∈ l, q x = some (p x)) : allG l q = some (l.all p) := by
  unfold allG; rw [if_pos hl]; exact allO_on q p l h
abbrev LS := S94
abbrev IS := S91
def toS (x : LS) : IS := ⟨x.f0, x.f1⟩
theorem rdIS {l : List IS} {i : Nat} (h : i < l.length) : rd_T91 l (i : Int) = l[i] := by
  unfold rd_T91; simp [List.getD, h]
theorem rdLS {l : List LS} {i : Nat} (h : i < l.length) : rd_T94 l (i : Int) = l[i] := by
  unfold rd_T94; simp [List.getD, h]
theorem szStrand_f (l : List LS) (n : Int) (h0 : (l.length : Int) ≤ 140737488351232) (hn : 0 ≤ n ∧ n ≤ 1048576) : laws_szStrandS.f l n = some (if (l.length : Int) ≤ n then n - l.length else -1) := by
  unfold laws_szStrandS.f
  rw [wr (by omega) (by omega)]
  by_cases h : (l.length : Int) ≤ n
  · rw [if_neg (by omega), if_pos h]
  · rw [if_pos (by omega), if_neg h]
theorem toStrandS_loop (l : List LS) (hl : (l.length : Int) ≤ 140737488351232) (d : Nat) : ∀ (out rest : List IS) (i : Nat), out.length = i → rest.length = d → i + d = l.length →
    Ev (fun k => laws_toStrandS.l0 k l (out ++ rest) (i : Int)) (out ++ (l.drop i).map toS) := by
  induction d with
  | zero =>
    intro out rest i ho hr hi
    refine Ev.step (f := fun _ => some (out ++ (l.drop i).map toS)) (fun k => ?_) (Ev.now _)
    simp only [laws_toStrandS.l0]
    rw [if_neg (by omega), List.drop_eq_nil_of_le (by omega), List.length_eq_zero_iff.1 hr]; simp
  | succ d ih =>
    intro out rest i ho hr hi
    have hil : i < l.length := by omega
    obtain ⟨y, rest, rfl⟩ : ∃ y r, rest = y :: r := by cases rest with | nil => simp at hr | cons y r => exact ⟨y, r, rfl⟩
    refine Ev.step (fun k => ?_) (ev_id (ih (out ++ [toS l[i]]) rest (i + 1) (by simp; omega) (by simpa using hr) (by omega)) ?_)
    · simp only [laws_toStrandS.l0, laws_toStrand.f, Option.bind_some]
      rw [if_pos (by omega), if_pos (by omega), if_pos (by simp; omega), rdLS hil, wr (n := (i : Int) + 1) (by omega) (by omega)]
      have : (out ++ y :: rest).set (i : Int).toNat (⟨l[i].f0, l[i].f1⟩ : IS) = out ++ [toS l[i]] ++ rest := by
        rw [Int.toNat_natCast, List.set_append_right _ _ (by omega), ho]; simp [toS]
      rw [this]; rfl
    · rw [List.drop_eq_getElem_cons hil]; simp only [List.map_cons, List.append_assoc, List.cons_append, List.nil_append]
theorem toStrandS_ev (l : List LS) (hl : (l.length : Int) ≤ 140737488351232) (hl2 : l.length ≤ 46912496118442) : Ev (fun k => laws_toStrandS.f k l) (l.map toS) := by
  unfold laws_toStrandS.f
  have h0 : (0 : Int) ≤ (l.length : Int) := by omega
  have h1 : ((l.length : Int) : Int).toNat ≤ 70368744177664 := by omega
  simp only [if_pos h0, if_pos h1]
  have := toStrandS_loop l hl l.length [] (List.replicate l.length z91) 0 rfl (by simp) (by omega)
  simpa using this
theorem eqStrandS_loop (l : List IS) (hl : (l.length : Int) ≤ 140737488351232) (d : Nat) : ∀ (i : Nat), i + d = l.length → Ev (fun k => laws_eqStrandS.l0 k l l (i : Int)) true := by
  induction d with
  | zero =>
    intro i hi
    refine Ev.step (f := fun _ => some true) (fun k => ?_) (Ev.now _)
    simp only [laws_eqStrandS.l0]; rw [if_neg (by omega)]
  | succ d ih =>
    intro i hi
    refine Ev.step (fun k => ?_) (ih (i + 1) (by omega))
    simp only [laws_eqStrandS.l0, laws_eqStrand.f, if_true, Option.bind_some]
    rw [if_pos (by omega), if_pos (by omega), if_pos (by omega), wr (n := (i : Int) + 1) (by omega) (by omega)]; rfl
theorem eqStrandS_self (l : List IS) (hl : (l.length : Int) ≤ 140737488351232) : Ev (fun k => laws_eqStrandS.f k l l) true := by
  unfold laws_eqStrandS.f
  simp only [if_true]
  exact eqStrandS_loop l hl l.length 0 (by omega)
/-- What a valid strand is. -/
def vS (x : IS) : Bool := decide ((1 ≤ wrap64 x.f0 ∧ wrap64 x.f0 ≤ 2000) ∧ x.f1 < 6)
theorem vS_loop (l : List IS) (hl : (l.length : Int) ≤ 140737488351232) (d : Nat) : ∀ (i : Nat), i + d = l.length → Ev (fun k => spec_l04Strands.l0 k l (i : Int)) ((l.drop i).all vS) := by
  induction d with
  | zero =>
    intro i hi
    refine Ev.step (f := fun _ => some true) (fun k => ?_) (ev_id (Ev.now _) ?_)
    · simp only [spec_l04Strands.l0]; rw [if_neg (by omega)]
    · rw [List.drop_eq_nil_of_le (by omega)]; rfl
  | succ d ih =>
    intro i hi
    have hil : i < l.length := by omega
    rw [List.drop_eq_getElem_cons hil, List.all_cons]
    have hv : vS l[i] = decide ((1 ≤ wrap64 l[i].f0 ∧ wrap64 l[i].f0 ≤ 2000) ∧ l[i].f1 < 6) := rfl
    by_cases h1 : 1 ≤ wrap64 l[i].f0 ∧ wrap64 l[i].f0 ≤ 2000
    · by_cases h2 : l[i].f1 < 6
      · refine Ev.step (fun k => ?_) (ev_id (ih (i + 1) (by omega)) (by rw [hv, decide_eq_true ⟨h1, h2⟩, Bool.true_and]))
        simp only [spec_l04Strands.l0, rdIS hil, l00In_f, Option.bind_some, if_dec]
        rw [if_pos (by omega), if_pos (by omega), if_pos h1, if_neg (by omega), wr (n := (i : Int) + 1) (by omega) (by omega)]; rfl
      · refine Ev.step (f := fun _ => some false) (fun k => ?_) (ev_id (Ev.now _) (by rw [hv, decide_eq_false (fun h => h2 h.2), Bool.false_and]))
        simp only [spec_l04Strands.l0, rdIS hil, l00In_f, Option.bind_some, if_dec]
        rw [if_pos (by omega), if_pos (by omega), if_pos h1, if_pos (by omega)]
    · refine Ev.step (f := fun _ => some false) (fun k => ?_) (ev_id (Ev.now _) (by rw [hv, decide_eq_false (fun h => h1 h.1), Bool.false_and]))
      simp only [spec_l04Strands.l0, rdIS hil, l00In_f, Option.bind_some, if_dec]
      rw [if_pos (by omega), if_pos (by omega), if_neg h1]
theorem vS_ev (l : List IS) (hl : (l.length : Int) ≤ 140737488351232) : Ev (fun k => spec_l04Strands.f k l) (l.all vS) := by
  unfold spec_l04Strands.f
  have := vS_loop l hl l.length 0 (by omega)
  simpa using this
theorem vS_impl (x : IS) : impl_ValidStrands_1.f x.f0 x.f1 = some (vS x) := by
  unfold impl_ValidStrands_1.f vS
  simp only [within_f, Option.bind_some, if_dec]
  by_cases h1 : 1 ≤ wrap64 x.f0 ∧ wrap64 x.f0 ≤ 2000 <;> simp [h1]
theorem validS_f (l : List IS) (hl : (l.length : Int) ≤ 140737488351232) : impl_ValidStrands.f l = some (l.all vS) := by
  unfold impl_ValidStrands.f
  have e : (fun x_ : IS => impl_ValidStrands_1.f x_.f0 x_.f1) = fun x => some (vS x) := funext vS_impl
  show (allG l _).bind _ = _
  rw [e, allG_some vS l (by omega)]; rfl
theorem markStrandS_loop (d : Nat) : ∀ (a : List IS) (m : Int) (i : Nat), i + d = a.length → (a.length : Int) ≤ 1073741824 → 0 ≤ m → m + 2 * d ≤ 4611686018427387904 →
    ∃ r : List IS, Ev (fun k => laws_markStrandS.l0 k a m (i : Int)) (m + 2 * d, r) := by
  induction d with
  | zero =>
    intro a m i hi hn h0 h1
    refine ⟨a, Ev.step (f := fun _ => some (m, a)) (fun k => ?_) (ev_id (Ev.now _) (by simp))⟩
    simp only [laws_markStrandS.l0]
    rw [if_neg (by omega)]
  | succ d ih =>
    intro a m i hi hn h0 h1
    have w1 : wrap64 (m + 1) = m + 1 := wr (by omega) (by omega)
    have w2 : wrap64 (m + 1 + 1) = m + 2 := by rw [wr (by omega) (by omega)]; omega
    have w3 : wrap64 ((i : Int) + 1) = ((i + 1 : Nat) : Int) := by rw [wr (by omega) (by omega)]; omega
    obtain ⟨r, h⟩ := ih ((a.set i (⟨IntKind.i16.wrap m, (rd_T91 a i).f1⟩ : IS)).set i (⟨(rd_T91 (a.set i (⟨IntKind.i16.wrap m, (rd_T91 a i).f1⟩ : IS)) i).f0, (m + 1) % 256⟩ : IS)) (m + 2) (i + 1) (by simp; omega) (by simpa using hn) (by omega) (by omega)
    refine ⟨r, Ev.step (fun k => ?_) (ev_id h (by rw [Prod.mk.injEq]; exact ⟨by omega, rfl⟩))⟩
    simp only [laws_markStrandS.l0, Option.bind_some, w1, w2, w3, Int.toNat_natCast]
    rw [if_pos (by omega), if_pos (by omega)]
theorem markStrandS_ev (a : List IS) (hn : (a.length : Int) ≤ 1073741824) : ∃ r : List IS, Ev (fun k => laws_markStrandS.f k a 1) (1 + 2 * (a.length : Int), r) := by
  obtain ⟨r, h⟩ := markStrandS_loop a.length a 1 0 (by omega) hn (by omega) (by omega)
  exact ⟨r, h⟩
theorem wfu8 {a : Int} (h : (Lit.int .u8 a).wf = true) : 0 ≤ a ∧ a < 256 := by
  simp only [Lit.wf, IntKind.min, IntKind.max, IntKind.signed, IntKind.bits, Bool.and_eq_true, decide_eq_true_eq, if_false, Bool.false_eq_true] at h
  omega
theorem rd_u8 (ms : List Int) (h : ∀ x ∈ ms, 0 ≤ x ∧ x < 256) (k : Int) : 0 ≤ rd ms k ∧ rd ms k < 256 := by
  unfold rd
  rw [List.getD_eq_getElem?_getD]
  cases hk : ms[k.toNat]? with
  | none => simp
  | some x => simpa using h x (List.mem_of_getElem? hk)
theorem shift_u8 {x : Int} (a : Nat) (h0 : 0 ≤ x) (h1 : x < 256) : 0 ≤ x / 2 ^ a ∧ x / 2 ^ a < 256 := by
  refine ⟨Int.ediv_nonneg h0 (Int.le_of_lt (Int.pow_pos (by omega))), ?_⟩
  exact Int.lt_of_le_of_lt (Int.ediv_le_self _ h0) h1
theorem and1_u8 {x : Int} (h0 : 0 ≤ x) (h1 : x < 256) : bits BinOp.and IntKind.u8 x 1 = x % 2 := by
  have z := bits_mask .u8 8 (by decide) wraps_u8 1 (by decide) x h0 h1
  simpa using z
theorem tmod2 {x : Int} (h0 : 0 ≤ x) : x.tmod 2 = x % 2 := Int.tmod_eq_emod_of_nonneg h0
theorem bit_same {x : Int} (a : Nat) (h0 : 0 ≤ x) (h1 : x < 256) : impl_mBit x a = spec_mBit x a := by
  obtain ⟨s0, s1⟩ := shift_u8 a h0 h1
  unfold impl_mBit spec_mBit
  rw [and1_u8 s0 s1, tmod2 s0]
theorem vmB_same (ms : List Int) (hm : ∀ x ∈ ms, 0 ≤ x ∧ x < 256) {x : Int} (h0 : 0 ≤ x) (h1 : x < 256) (a : Nat) : ∀ d, impl_vmB ms x a d = spec_vmB ms x a d
  | 0 => rfl
  | d + 1 => by
    simp only [impl_vmB, spec_vmB]
    rw [bit_same _ h0 h1, bit_same a (rd_u8 ms hm _).1 (rd_u8 ms hm _).2, vmB_same ms hm h0 h1 a d]
theorem vmA_same (ms : List Int) (hm : ∀ x ∈ ms, 0 ≤ x ∧ x < 256) : ∀ d, impl_vmA ms d = spec_vmA ms d
  | 0 => rfl
  | d + 1 => by
    simp only [impl_vmA, spec_vmA]
    have h := rd_u8 ms hm ((5 - d : Nat) : Int)
    rw [bit_same _ h.1 h.2, vmB_same ms hm h.1 h.2, vmA_same ms hm d]
/-- Are meets valid? -/
def okM (a b c d e f : Int) : Bool := spec_vmA [a, b, c, d, e, f] 6
def U8 (a b c d e f : Int) : Prop := ∀ x ∈ [a, b, c, d, e, f], 0 ≤ x ∧ x < 256
theorem U8.mk {a b c d e f : Int} (ha : (Lit.int .u8 a).wf = true) (hb : (Lit.int .u8 b).wf = true) (hc : (Lit.int .u8 c).wf = true) (hd : (Lit.int .u8 d).wf = true) (he : (Lit.int .u8 e).wf = true) (hf : (Lit.int .u8 f).wf = true) : U8 a b c d e f := by
  intro x hx
  simp only [List.mem_cons, List.not_mem_nil, or_false] at hx
  rcases hx with rfl | rfl | rfl | rfl | rfl | rfl
  · exact wfu8 ha
  · exact wfu8 hb
  · exact wfu8 hc
  · exact wfu8 hd
  · exact wfu8 he
  · exact wfu8 hf
theorem specM_f (a b c d e f : Int) : spec_l04Meets.f a b c d e f = some (okM a b c d e f) := rfl
theorem implM_f {a b c d e f : Int} (h : U8 a b c d e f) : impl_ValidMeets.f a b c d e f = some (okM a b c d e f) := by
  unfold impl_ValidMeets.f okM
  rw [vmA_same _ h]
/-- May two dyes be on one reel? -/
def may (ms : List Int) (a b : Int) : Bool := (rd ms a / 2 ^ b.toNat) % 2 == 1
theorem specMay_f (m0 m1 m2 m3 m4 m5 aL a bL b : Int) (hm : U8 m0 m1 m2 m3 m4 m5) (ha : 0 ≤ a ∧ a < 6) (hb : 0 ≤ b ∧ b < 6) : spec_l04May.f m0 m1 m2 m3 m4 m5 aL a bL b = some (may [m0, m1, m2, m3, m4, m5] a b) := by
  unfold spec_l04May.f may
  rw [if_pos ⟨ha.1, ha.2, hb.1⟩]
  have w : IntKind.u64.wrap b = b := by
    simp only [IntKind.wrap, IntKind.bits, IntKind.signed]; simp; omega
  have h := rd_u8 _ hm a
  rw [w, Nat.min_eq_left (by omega), tmod2 (shift_u8 b.toNat h.1 h.2).1]
theorem implMay_f (m0 m1 m2 m3 m4 m5 aL a bL b : Int) (hm : U8 m0 m1 m2 m3 m4 m5) (ha : 0 ≤ a ∧ a < 6) (hb : 0 ≤ b ∧ b < 6) : impl_mayWind.f m0 m1 m2 m3 m4 m5 aL a bL b = some (may [m0, m1, m2, m3, m4, m5] a b) := by
  unfold impl_mayWind.f may
  rw [if_pos ⟨ha.1, ha.2, hb.1⟩]
  have h := rd_u8 _ hm a
  have s := shift_u8 b.toNat h.1 h.2
  rw [Nat.min_eq_left (by omega), and1_u8 s.1 s.2]
theorem spec_vmA_spec (ms : List Int) : ∀ d : Nat, d ≤ 6 → spec_vmA ms d = true → ∀ a : Nat, 6 - d ≤ a → a < 6 → spec_mBit (rd ms (a : Int)) a ≠ 0 ∧ spec_vmB ms (rd ms (a : Int)) a 6 = true
  | 0, _, _ => fun a h1 h2 => by omega
  | d + 1, hd, h => fun a h1 h2 => by
    simp only [spec_vmA] at h
    split at h
    · split at h
      · cases h
      · rename_i hb
        split at h
        · rename_i hv
          by_cases he : a = 5 - d
          · subst he; exact ⟨hb, hv⟩
          · exact spec_vmA_spec ms d (by omega) h a (by omega) h2
        · cases h
    · cases h
theorem spec_vmB_spec (ms : List Int) (x : Int) (a : Nat) : ∀ d : Nat, d ≤ 6 → spec_vmB ms x a d = true → ∀ b : Nat, 6 - d ≤ b → b < 6 → spec_mBit x b = spec_mBit (rd ms (b : Int)) a
  | 0, _, _ => fun b h1 h2 => by omega
  | d + 1, hd, h => fun b h1 h2 => by
    simp only [spec_vmB] at h
    split at h
    · rename_i he
      by_cases hb : b = 5 - d
      · subst hb; exact he
      · exact spec_vmB_spec ms x a d (by omega) h b (by omega) h2
    · cases h
theorem may_bit (ms : List Int) (hm : ∀ x ∈ ms, 0 ≤ x ∧ x < 256) (a b : Int) : may ms a b = decide (spec_mBit (rd ms a) b.toNat = 1) := by
  have h := rd_u8 ms hm a
  unfold may spec_mBit
  rw [tmod2 (shift_u8 b.toNat h.1 h.2).1]
  by_cases e : rd ms a / 2 ^ b.toNat % 2 = 1 <;> simp [e]
theorem mBit_two (ms : List Int) (hm : ∀ x ∈ ms, 0 ≤ x ∧ x < 256) (k : Int) (b : Nat) : spec_mBit (rd ms k) b = 0 ∨ spec_mBit (rd ms k) b = 1 := by
  have h := rd_u8 ms hm k
  unfold spec_mBit
  rw [tmod2 (shift_u8 b h.1 h.2).1]
  omega
theorem may_self {m0 m1 m2 m3 m4 m5 : Int} (hm : U8 m0 m1 m2 m3 m4 m5) (ok : okM m0 m1 m2 m3 m4 m5 = true) {a : Int} (ha : 0 ≤ a ∧ a < 6) : may [m0, m1, m2, m3, m4, m5] a a = true := by
  obtain ⟨n, rfl⟩ := Int.eq_ofNat_of_zero_le ha.1
  have h := (spec_vmA_spec _ 6 (by omega) ok n (by omega) (by omega)).1
  rw [may_bit _ hm]
  rcases mBit_two _ hm n n with e | e
  · exact absurd e h
  · simpa using e
theorem may_sym {m0 m1 m2 m3 m4 m5 : Int} (hm : U8 m0 m1 m2 m3 m4 m5) (ok : okM m0 m1 m2 m3 m4 m5 = true) {a b : Int} (ha : 0 ≤ a ∧ a < 6) (hb : 0 ≤ b ∧ b < 6) : may [m0, m1, m2, m3, m4, m5] a b = may [m0, m1, m2, m3, m4, m5] b a := by
  obtain ⟨n, rfl⟩ := Int.eq_ofNat_of_zero_le ha.1
  obtain ⟨j, rfl⟩ := Int.eq_ofNat_of_zero_le hb.1
  have h := spec_vmB_spec _ _ n 6 (by omega) (spec_vmA_spec _ 6 (by omega) ok n (by omega) (by omega)).2 j (by omega) (by omega)
  rw [may_bit _ hm, may_bit _ hm, Int.toNat_natCast, Int.toNat_natCast, h]
theorem vS_of {x : IS} (h : vS x = true) (hw : -32768 ≤ x.f0 ∧ x.f0 ≤ 32767) : 1 ≤ x.f0 ∧ x.f0 ≤ 2000 ∧ x.f1 < 6 := by
  unfold vS at h
  have := of_decide_eq_true h
  rw [wr (by omega) (by omega)] at this
  omega
/-- A strand as it may be. -/
def OkS (x : IS) : Prop := (1 ≤ x.f0 ∧ x.f0 ≤ 2000) ∧ 0 ≤ x.f1 ∧ x.f1 < 6
/-- The length of strands together. -/
def sumL : List IS → Int
  | [] => 0
  | x :: l => x.f0 + sumL l
theorem sumL_bound : ∀ l : List IS, (∀ x ∈ l, OkS x) → 0 ≤ sumL l ∧ sumL l ≤ 2000 * l.length
  | [], _ => by simp [sumL]
  | x :: l, h => by
    have h1 := h x (by simp)
    have h2 := sumL_bound l (fun y hy => h y (List.mem_cons_of_mem _ hy))
    unfold OkS at h1
    simp only [sumL, List.length_cons]
    omega
/-- May the strands be on one reel? -/
def onP (ms : List Int) (hold : Int) (l : List IS) : Bool := decide (sumL l ≤ hold) && l.all fun a => l.all fun b => may ms a.f1 b.f1
theorem long_loop (l : List IS) (hl : (l.length : Int) ≤ 2097152) (ho : ∀ x ∈ l, OkS x) (d : Nat) : ∀ (i : Nat) (s : Int), i + d = l.length → (0 ≤ s ∧ s ≤ 2000 * i) →
    Ev (fun k => impl_longOf.l0 k s l (l.length : Int) (i : Int)) (s + sumL (l.drop i)) := by
  induction d with
  | zero =>
    intro i s hi hs
    refine Ev.step (f := fun _ => some s) (fun k => ?_) (ev_id (Ev.now _) ?_)
    · simp only [impl_longOf.l0]; rw [if_neg (by omega)]
    · rw [List.drop_eq_nil_of_le (by omega)]; simp [sumL]
  | succ d ih =>
    intro i s hi hs
    have hil : i < l.length := by omega
    have h1 := ho l[i] (List.getElem_mem _)
    unfold OkS at h1
    have w1 : wrap64 l[i].f0 = l[i].f0 := wr (by omega) (by omega)
    have w2 : wrap64 (s + l[i].f0) = s + l[i].f0 := wr (by omega) (by omega)
    refine Ev.step (fun k => ?_) (ev_id (ih (i + 1) (s + l[i].f0) (by omega) (by omega)) ?_)
    · simp only [impl_longOf.l0, rdIS hil, w1, w2]
      rw [if_pos (by omega), if_pos (by omega), if_pos (by omega), wr (n := (i : Int) + 1) (by omega) (by omega)]; rfl
    · rw [List.drop_eq_getElem_cons hil]; simp only [sumL]; omega
theorem implOn_ev {m0 m1 m2 m3 m4 m5 : Int} (hm : U8 m0 m1 m2 m3 m4 m5) (ok : okM m0 m1 m2 m3 m4 m5 = true) (hold : Int) (l : List IS) (hl : (l.length : Int) ≤ 2097152) (ho : ∀ x ∈ l, OkS x) :
    Ev (fun k => impl_onReel.f k m0 m1 m2 m3 m4 m5 hold l) (onP [m0, m1, m2, m3, m4, m5] hold l) := by
  unfold impl_onReel.f onP
  have h := long_loop l hl ho l.length 0 0 (by omega) (by omega)
  simp only [List.drop_zero, Int.zero_add] at h
  refine Ev.bind h ?_
  by_cases hs : sumL l ≤ hold
  · simp only [if_pos hs, decide_eq_true hs, Bool.true_and]
    have q : ∀ a ∈ l, impl_onReel_1.f a.f0 a.f1 l m0 m1 m2 m3 m4 m5 = some (l.all fun b => may [m0, m1, m2, m3, m4, m5] a.f1 b.f1) := by
      intro a ha
      unfold impl_onReel_1.f
      have e : impl_Strand_118.f l (fun x_ => impl_onReel_1_1.f x_.f0 x_.f1 m0 m1 m2 m3 m4 m5 a.f0 a.f1) = some (l.all fun b => may [m0, m1, m2, m3, m4, m5] a.f1 b.f1) := by
        show allG l _ = _
        refine allG_on _ _ l (by omega) fun b hb => ?_
        unfold impl_onReel_1_1.f
        have oa := ho a ha
        have ob := ho b hb
        unfold OkS at oa ob
        rw [implMay_f m0 m1 m2 m3 m4 m5 a.f0 a.f1 b.f0 b.f1 hm oa.2 ob.2]; rfl
      rw [e]; rfl
    have e : impl_Strand_118.f l (fun x_ => impl_onReel_1.f x_.f0 x_.f1 l m0 m1 m2 m3 m4 m5) = some (l.all fun a => l.all fun b => may [m0, m1, m2, m3, m4, m5] a.f1 b.f1) := by
      show allG l _ = _
      exact allG_on _ _ l (by omega) q
    rw [e]; exact Ev.now _
  · simp only [if_neg hs, decide_eq_false hs, Bool.false_and]; exact Ev.now _
/-- Strand i beside those before it, and so on for d strands. -/
def onB (ms : List Int) (l : List IS) : Nat → Nat → Bool
  | _, 0 => true
  | i, d + 1 => (List.range i).all (fun k => may ms (rd_T91 l (i : Int)).f1 (rd_T91 l (k : Int)).f1) && onB ms l (i + 1) d
theorem onB_iff (ms : List Int) (l : List IS) : ∀ (d i : Nat), onB ms l i d = true ↔ ∀ a, i ≤ a → a < i + d → ∀ b, b < a → may ms (rd_T91 l (a : Int)).f1 (rd_T91 l (b : Int)).f1 = true
  | 0, i => by simp only [onB, true_iff]; intro a h1 h2; omega
  | d + 1, i => by
    simp only [onB, Bool.and_eq_true, List.all_eq_true, List.mem_range, onB_iff ms l d (i + 1)]
    constructor
    · rintro ⟨h1, h2⟩ a ha hb b hba
      by_cases e : a = i
      · subst e; exact h1 b hba
      · exact h2 a (by omega) (by omega) b hba
    · intro h
      exact ⟨fun b hb => h i (by omega) (by omega) b hb, fun a h1 h2 => h a (by omega) (by omega)⟩
theorem specOn_inner {m0 m1 m2 m3 m4 m5 : Int} (hm : U8 m0 m1 m2 m3 m4 m5) (hold : Int) (l : List IS) (hl : (l.length : Int) ≤ 2097152) (ho : ∀ x ∈ l, OkS x) (i : Nat) (hi : i < l.length) (s : Int) (R : Bool)
    (hR : Ev (fun k => spec_l04On.l0 k hold l s ((i + 1 : Nat) : Int) m0 m1 m2 m3 m4 m5) R) (e : Nat) : ∀ j : Nat, j + e = i →
    Ev (fun k => spec_l04On.l1 k hold l s (i : Int) (j : Int) m0 m1 m2 m3 m4 m5) (((List.range i).drop j).all (fun k => may [m0, m1, m2, m3, m4, m5] (rd_T91 l (i : Int)).f1 (rd_T91 l (k : Int)).f1) && R) := by
  induction e with
  | zero =>
    intro j hj
    rw [List.drop_eq_nil_of_le (by simp; omega), List.all_nil, Bool.true_and]
    refine Ev.step (fun k => ?_) hR
    simp only [spec_l04On.l1]; rw [if_neg (by omega), wr (n := (i : Int) + 1) (by omega) (by omega)]; rfl
  | succ e ih =>
    intro j hj
    have hjl : j < l.length := by omega
    have o1 := ho l[i] (List.getElem_mem _)
    have o2 := ho l[j] (List.getElem_mem _)
    unfold OkS at o1 o2
    have ed : (List.range i).drop j = j :: (List.range i).drop (j + 1) := by
      rw [List.drop_eq_getElem_cons (by simp; omega)]; simp
    rw [ed, List.all_cons]
    have hmay := specMay_f m0 m1 m2 m3 m4 m5 l[i].f0 l[i].f1 l[j].f0 l[j].f1 hm o1.2 o2.2
    have ih' := ih (j + 1) (by omega)
    rw [rdIS hi, rdIS hjl]
    rw [rdIS hi] at ih'
    have c1 : (j : Int) < (i : Int) := by omega
    have c2 : (0 : Int) ≤ (i : Int) := by omega
    have c3 : (i : Int) < (l.length : Int) := by omega
    have c4 : (0 : Int) ≤ (j : Int) := by omega
    have c5 : (j : Int) < (l.length : Int) := by omega
    cases hv : may [m0, m1, m2, m3, m4, m5] l[i].f1 l[j].f1 with
    | true =>
      rw [Bool.true_and]
      refine Ev.step (fun k => ?_) ih'
      simp only [spec_l04On.l1, rdIS hi, rdIS hjl, if_pos c1, if_pos c2, if_pos c3, if_pos c4, if_pos c5, hmay, hv, Option.bind_some, if_true]
      rw [wr (n := (j : Int) + 1) (by omega) (by omega)]; rfl
    | false =>
      rw [Bool.false_and, Bool.false_and]
      refine Ev.step (f := fun _ => some false) (fun k => ?_) (Ev.now _)
      simp only [spec_l04On.l1, rdIS hi, rdIS hjl, if_pos c1, if_pos c2, if_pos c3, if_pos c4, if_pos c5, hmay, hv, Option.bind_some, Bool.false_eq_true, if_false]
theorem specOn_loop {m0 m1 m2 m3 m4 m5 : Int} (hm : U8 m0 m1 m2 m3 m4 m5) (hold : Int) (l : List IS) (hl : (l.length : Int) ≤ 2097152) (ho : ∀ x ∈ l, OkS x) (d : Nat) : ∀ (i : Nat) (s : Int), i + d = l.length → (0 ≤ s ∧ s ≤ 2000 * i) →
    Ev (fun k => spec_l04On.l0 k hold l s (i : Int) m0 m1 m2 m3 m4 m5) (onB [m0, m1, m2, m3, m4, m5] l i d && decide (s + sumL (l.drop i) ≤ hold)) := by
  induction d with
  | zero =>
    intro i s hi hs
    refine Ev.step (f := fun _ => some (decide (s ≤ hold))) (fun k => ?_) (ev_id (Ev.now _) ?_)
    · simp only [spec_l04On.l0]; rw [if_neg (by omega)]
    · rw [List.drop_eq_nil_of_le (by omega)]; simp [onB, sumL]
  | succ d ih =>
    intro i s hi hs
    have hil : i < l.length := by omega
    have h1 := ho l[i] (List.getElem_mem _)
    unfold OkS at h1
    have w1 : wrap64 l[i].f0 = l[i].f0 := wr (by omega) (by omega)
    have w2 : wrap64 (s + l[i].f0) = s + l[i].f0 := wr (by omega) (by omega)
    have ih' := ih (i + 1) (s + l[i].f0) (by omega) (by omega)
    have z := specOn_inner hm hold l hl ho i hil (s + l[i].f0) _ ih' i 0 (by omega)
    refine Ev.step (fun k => ?_) (ev_id z ?_)
    · simp only [spec_l04On.l0, rdIS hil, w1, w2]
      rw [if_pos (by omega), if_pos (by omega)]; rfl
    · have es : s + l[i].f0 + sumL (l.drop (i + 1)) = s + sumL (l.drop i) := by
        rw [List.drop_eq_getElem_cons hil]; simp only [sumL]; omega
      rw [es]; simp only [onB, List.drop_zero, Bool.and_assoc]
theorem onB_all {m0 m1 m2 m3 m4 m5 : Int} (hm : U8 m0 m1 m2 m3 m4 m5) (ok : okM m0 m1 m2 m3 m4 m5 = true) (l : List IS) (ho : ∀ x ∈ l, OkS x) :
    onB [m0, m1, m2, m3, m4, m5] l 0 l.length = l.all fun a => l.all fun b => may [m0, m1, m2, m3, m4, m5] a.f1 b.f1 := by
  rw [Bool.eq_iff_iff, onB_iff, List.all_eq_true]
  have R : ∀ (i : Nat) (h : i < l.length), rd_T91 l (i : Int) = l[i] := fun i h => rdIS h
  constructor
  · intro h x hx
    rw [List.all_eq_true]
    intro y hy
    obtain ⟨i, hi, rfl⟩ := List.mem_iff_getElem.1 hx
    obtain ⟨j, hj, rfl⟩ := List.mem_iff_getElem.1 hy
    have o1 := ho l[i] (List.getElem_mem _)
    have o2 := ho l[j] (List.getElem_mem _)
    unfold OkS at o1 o2
    rcases Nat.lt_trichotomy i j with e | e | e
    · have z := h j (by omega) (by omega) i e
      rw [R i hi, R j hj] at z
      rw [may_sym hm ok o1.2 o2.2]; exact z
    · subst e; exact may_self hm ok o1.2
    · have z := h i (by omega) (by omega) j e
      rw [R i hi, R j hj] at z; exact z
  · intro h a _ ha b hb
    have ha' : a < l.length := by omega
    have hb' : b < l.length := by omega
    rw [R a ha', R b hb']
    have z := h l[a] (List.getElem_mem _)
    rw [List.all_eq_true] at z
    exact z l[b] (List.getElem_mem _)
theorem specOn_ev {m0 m1 m2 m3 m4 m5 : Int} (hm : U8 m0 m1 m2 m3 m4 m5) (ok : okM m0 m1 m2 m3 m4 m5 = true) (hold : Int) (l : List IS) (hl : (l.length : Int) ≤ 2097152) (ho : ∀ x ∈ l, OkS x) :
    Ev (fun k => spec_l04On.f k m0 m1 m2 m3 m4 m5 hold l) (onP [m0, m1, m2, m3, m4, m5] hold l) := by
  unfold spec_l04On.f
  have z := specOn_loop hm hold l hl ho l.length 0 0 (by omega) (by omega)
  rw [onB_all hm ok l ho] at z
  simp only [List.drop_zero, Int.zero_add] at z
  refine ev_id z ?_
  unfold onP
  rw [Bool.and_comm]
theorem hold_f (h : Int) : spec_l04Hold.f h = some (decide (1 ≤ h ∧ h ≤ 2000)) := by
  unfold spec_l04Hold.f; rw [l00In_f]; rfl
/-- The code for meets, strands and numbers. -/
def codeS (m0 m1 m2 m3 m4 m5 : Int) (l : List IS) (fine : Bool) : Int :=
  if okM m0 m1 m2 m3 m4 m5 = true then (if l.all vS = true then (if (l.length : Int) > 8 then 3 else if fine = true then 0 else 2) else 1) else 1
theorem specCode_ev {m0 m1 m2 m3 m4 m5 : Int} (l : List IS) (hl : (l.length : Int) ≤ 140737488351232) (fine : Bool) :
    Ev (fun k => spec_l04Asked.f k m0 m1 m2 m3 m4 m5 l fine) (codeS m0 m1 m2 m3 m4 m5 l fine) := by
  unfold spec_l04Asked.f codeS
  simp only [specM_f, Option.bind_some]
  by_cases ok : okM m0 m1 m2 m3 m4 m5 = true
  · simp only [if_pos ok]
    refine Ev.bind (vS_ev l hl) ?_
    cases l.all vS with
    | false => exact Ev.step (f := fun _ => some 1) (fun k => by simp [spec_l04Asked.j0]) (Ev.now _)
    | true =>
      simp only [if_true, Bool.not_true]
      refine Ev.step (f := fun _ => some (if (l.length : Int) > 8 then 3 else if fine = true then 0 else 2)) (fun k => ?_) (Ev.now _)
      simp only [spec_l04Asked.j0, Bool.false_eq_true, if_false]
      by_cases h : (l.length : Int) > 8
      · simp only [if_pos h]
      · simp only [if_neg h]; cases fine <;> simp
  · simp only [if_neg ok]
    exact Ev.step (f := fun _ => some 1) (fun k => by simp [spec_l04Asked.j0]) (Ev.now _)
theorem implCode_ev {m0 m1 m2 m3 m4 m5 : Int} (hm : U8 m0 m1 m2 m3 m4 m5) (hold : Int) (l : List IS) (hl : (l.length : Int) ≤ 140737488351232) (fine : Bool) :
    Ev (fun k => impl_strandsCode.f k m0 m1 m2 m3 m4 m5 hold l fine) (codeS m0 m1 m2 m3 m4 m5 l (decide (1 ≤ hold ∧ hold ≤ 2000) && fine)) := by
  unfold impl_strandsCode.f codeS
  simp only [implM_f hm, Option.bind_some]
  by_cases ok : okM m0 m1 m2 m3 m4 m5 = true
  · simp only [if_pos ok, validS_f l hl, Option.bind_some]
    cases l.all vS with
    | false => exact Ev.step (f := fun _ => some 1) (fun k => by simp [impl_strandsCode.j0]) (Ev.now _)
    | true =>
      simp only [if_true, Bool.not_true]
      refine Ev.step (f := fun _ => some (if (l.length : Int) > 8 then 3 else if (decide (1 ≤ hold ∧ hold ≤ 2000) && fine) = true then 0 else 2)) (fun k => ?_) (Ev.now _)
      simp only [impl_strandsCode.j0, Bool.false_eq_true, if_false, within_f, Option.bind_some]
      by_cases h : (l.length : Int) > 8
      · simp only [if_pos h]
      · simp only [if_neg h]
        cases decide (1 ≤ hold ∧ hold ≤ 2000) <;> cases fine <;> simp
  · simp only [if_neg ok]
    exact Ev.step (f := fun _ => some 1) (fun k => by simp [impl_strandsCode.j0]) (Ev.now _)
theorem codeS_ok {m0 m1 m2 m3 m4 m5 : Int} {l : List IS} {fine : Bool} (h : codeS m0 m1 m2 m3 m4 m5 l fine = 0) : okM m0 m1 m2 m3 m4 m5 = true ∧ l.all vS = true ∧ (l.length : Int) ≤ 8 ∧ fine = true := by
  unfold codeS at h
  split at h
  · rename_i ok
    split at h
    · rename_i hv
      split at h
      · omega
      · split at h
        · rename_i hf
          exact ⟨ok, hv, by omega, hf⟩
        · omega
    · omega
  · omega
theorem wfi16 {a : Int} (h : (Lit.int .i16 a).wf = true) : -32768 ≤ a ∧ a ≤ 32767 := by
  simp only [Lit.wf, IntKind.min, IntKind.max, IntKind.signed, IntKind.bits, Bool.and_eq_true, decide_eq_true_eq, if_true] at h
  omega
theorem okS_of {l : List LS} (hw : ∀ x ∈ l, (Lit.int .i16 x.f0).wf = true ∧ (Lit.int .u8 x.f1).wf = true) (hv : (l.map toS).all vS = true) : ∀ x ∈ l.map toS, OkS x := by
  intro x hx
  obtain ⟨y, hy, rfl⟩ := List.mem_map.1 hx
  obtain ⟨h1, h2⟩ := hw y hy
  have h3 := wfi16 h1
  have h4 := wfu8 h2
  have h5 := vS_of (List.all_eq_true.1 hv _ hx) h3
  exact ⟨⟨h5.1, h5.2.1⟩, h4.1, h5.2.2⟩
/-- The strands of a reel. -/
def withL : List IS → List Int → Int → List IS
  | x :: l, y :: ys, r => (if y = r then [x] else []) ++ withL l ys r
  | _, _, _ => []
theorem withL_len : ∀ (l : List IS) (ys : List Int) (r : Int), (withL l ys r).length ≤ l.length
  | [], ys, r => by simp [withL]
  | x :: l, [], r => by simp [withL]
  | x :: l, y :: ys, r => by
    have := withL_len l ys r
    simp only [withL]
    split <;> simp <;> omega
theorem withL_mem : ∀ (l : List IS) (ys : List Int) (r : Int), ∀ x ∈ withL l ys r, x ∈ l
  | [], ys, r => by simp [withL]
  | x :: l, [], r => by simp [withL]
  | x :: l, y :: ys, r => by
    intro z hz
    simp only [withL, List.mem_append] at hz
    rcases hz with hz | hz
    · split at hz
      · rw [List.mem_singleton.1 hz]; simp
      · simp at hz
    · exact List.mem_cons_of_mem _ (withL_mem l ys r z hz)
theorem withL_nil (l : List IS) (r : Int) : withL l [] r = [] := by cases l <;> rfl
theorem specWith_loop (l : List IS) (ys : List Int) (r : Int) (hl : (l.length : Int) ≤ 2097152) (hy : ys.length ≤ l.length) (d : Nat) : ∀ (i : Nat) (out : List IS), i + d = ys.length → out.length ≤ i →
    Ev (fun k => spec_l04With.l0 k l ys r out (i : Int)) (out ++ withL (l.drop i) (ys.drop i) r) := by
  induction d with
  | zero =>
    intro i out hi ho
    refine Ev.step (f := fun _ => some out) (fun k => ?_) (ev_id (Ev.now _) ?_)
    · simp only [spec_l04With.l0]; rw [if_neg (by omega)]
    · rw [show ys.drop i = [] from List.drop_eq_nil_of_le (by omega), withL_nil]; simp
  | succ d ih =>
    intro i out hi ho
    have hi1 : i < ys.length := by omega
    have hi2 : i < l.length := by omega
    rw [List.drop_eq_getElem_cons hi1, List.drop_eq_getElem_cons hi2]
    simp only [withL]
    by_cases h : ys[i] = r
    · refine Ev.step (fun k => ?_) (ev_id (ih (i + 1) (out ++ [l[i]]) (by omega) (by simp; omega)) ?_)
      · simp only [spec_l04With.l0, rd_lt hi1, rdIS hi2]
        rw [if_pos (by omega), if_pos (by omega), if_pos h, if_pos (by omega), if_pos (by omega), wr (n := (i : Int) + 1) (by omega) (by omega)]; rfl
      · rw [if_pos h]; simp
    · refine Ev.step (fun k => ?_) (ev_id (ih (i + 1) out (by omega) (by omega)) ?_)
      · simp only [spec_l04With.l0, rd_lt hi1, rdIS hi2]
        rw [if_pos (by omega), if_pos (by omega), if_neg h, wr (n := (i : Int) + 1) (by omega) (by omega)]; rfl
      · rw [if_neg h]; simp
theorem specWith_ev (l : List IS) (ys : List Int) (r : Int) (hl : (l.length : Int) ≤ 2097152) (hy : ys.length ≤ l.length) : Ev (fun k => spec_l04With.f k l ys r) (withL l ys r) := by
  unfold spec_l04With.f
  have := specWith_loop l ys r hl hy ys.length 0 [] (by omega) (by simp)
  simpa using this
/-- The first place, from j on, of a list that fits; or the place behind them all. -/
def fI (p : List IS → Bool) : List (List IS) → Nat → Nat
  | [], j => j
  | x :: L, j => if p x = true then j else fI p L (j + 1)
theorem fI_ge (p : List IS → Bool) : ∀ (L : List (List IS)) (j : Nat), j ≤ fI p L j ∧ fI p L j ≤ j + L.length
  | [], j => by simp [fI]
  | x :: L, j => by
    have h := fI_ge p L (j + 1)
    simp only [fI, List.length_cons]
    split <;> omega
theorem idxO_ev (q : Nat → List IS → Option Bool) (p : List IS → Bool) : ∀ (L : List (List IS)) (j : Nat), (∀ x ∈ L, Ev (fun k => q k x) (p x)) → Ev (fun k => idxO (q k) L (j : Int)) (if fI p L j < j + L.length then ((fI p L j : Nat) : Int) else -1)
  | [], j, _ => ev_id (Ev.now (-1)) (by simp [fI])
  | x :: L, j, h => by
    have ih := idxO_ev q p L (j + 1) (fun y hy => h y (List.mem_cons_of_mem _ hy))
    show Ev (fun k => (q k x).bind fun b => if b = true then some (j : Int) else idxO (q k) L ((j : Int) + 1)) _
    refine Ev.bind (h x (by simp)) ?_
    simp only [fI, List.length_cons]
    by_cases hp : p x = true
    · simp only [hp, if_true]
      rw [if_pos (by omega)]; exact Ev.now _
    · rw [Bool.not_eq_true] at hp
      simp only [hp, Bool.false_eq_true, if_false]
      have e : (j : Int) + 1 = ((j + 1 : Nat) : Int) := by omega
      rw [e]
      refine ev_id ih ?_
      have e2 : j + 1 + L.length = j + (L.length + 1) := by omega
      rw [e2]
theorem withL_snoc : ∀ (l : List IS) (ys : List Int) (y r : Int) (h : ys.length < l.length), withL l (ys ++ [y]) r = withL l ys r ++ (if y = r then [l[ys.length]] else [])
  | [], ys, y, r, h => by simp at h
  | x :: l, [], y, r, h => by
    simp only [List.nil_append, withL, withL_nil, List.append_nil, List.length_nil, List.getElem_cons_zero]
  | x :: l, z :: ys, y, r, h => by
    have hl : ys.length < l.length := by simpa using h
    have := withL_snoc l ys y r hl
    simp only [List.cons_append, withL, this, List.append_assoc, List.length_cons, List.getElem_cons_succ]
theorem alone_loop (hold : Int) (l : List IS) (hl : (l.length : Int) ≤ 2097152) (ho : ∀ x ∈ l, OkS x) (d : Nat) : ∀ (i : Nat), i + d = l.length → Ev (fun k => spec_l04Alone.l0 k hold l (i : Int)) ((l.drop i).all fun x => decide (x.f0 ≤ hold)) := by
  induction d with
  | zero =>
    intro i hi
    refine Ev.step (f := fun _ => some true) (fun k => ?_) (ev_id (Ev.now _) ?_)
    · simp only [spec_l04Alone.l0]; rw [if_neg (by omega)]
    · rw [List.drop_eq_nil_of_le (by omega)]; rfl
  | succ d ih =>
    intro i hi
    have hil : i < l.length := by omega
    have o := ho l[i] (List.getElem_mem _)
    unfold OkS at o
    have w := wr (n := l[i].f0) (by omega) (by omega)
    rw [List.drop_eq_getElem_cons hil, List.all_cons]
    by_cases h : l[i].f0 ≤ hold
    · rw [decide_eq_true h, Bool.true_and]
      refine Ev.step (fun k => ?_) (ih (i + 1) (by omega))
      simp only [spec_l04Alone.l0, rdIS hil, w]
      rw [if_pos (by omega), if_pos (by omega), if_neg (by omega), wr (n := (i : Int) + 1) (by omega) (by omega)]; rfl
    · rw [decide_eq_false h, Bool.false_and]
      refine Ev.step (f := fun _ => some false) (fun k => ?_) (Ev.now _)
      simp only [spec_l04Alone.l0, rdIS hil, w]
      rw [if_pos (by omega), if_pos (by omega), if_pos (by omega)]
theorem max_f (a b : Int) : spec_l00Max.f a b = some (if a > b then a else b) := by
  unfold spec_l00Max.f; split <;> rfl
section
variable {m0 m1 m2 m3 m4 m5 : Int} (hm : U8 m0 m1 m2 m3 m4 m5) (ok : okM m0 m1 m2 m3 m4 m5 = true) (hold : Int) (l : List IS) (hl : l.length ≤ 8) (ho : ∀ x ∈ l, OkS x)
include hm ok hl ho
/-- The reference's search for a reel. -/
theorem seek_loop (rs : List (List IS)) (ys : List Int) (i : Nat) (hi : i < l.length) (hys : ys.length = i) (hrs : rs.length ≤ i) (hinv : ∀ k (h : k < rs.length), rs[k] = withL l ys (k : Int)) (R : List Int × Int × Int) (d : Nat) : ∀ j : Nat, j + d = rs.length →
    Ev (fun k => spec_FirstReels.l0 k hold l (ys ++ [((fI (fun own => onP [m0, m1, m2, m3, m4, m5] hold (own ++ [l[i]])) (rs.drop j) j : Nat) : Int)]) (if (rs.length : Int) > ((fI (fun own => onP [m0, m1, m2, m3, m4, m5] hold (own ++ [l[i]])) (rs.drop j) j + 1 : Nat) : Int) then (rs.length : Int) else ((fI (fun own => onP [m0, m1, m2, m3, m4, m5] hold (own ++ [l[i]])) (rs.drop j) j + 1 : Nat) : Int)) ((i + 1 : Nat) : Int) m0 m1 m2 m3 m4 m5) R →
    Ev (fun k => spec_FirstReels.l1 k hold l ys (rs.length : Int) (i : Int) (j : Int) m0 m1 m2 m3 m4 m5) R := by
  have wi : wrap64 ((i : Int) + 1) = ((i + 1 : Nat) : Int) := by rw [wr (by omega) (by omega)]; omega
  have cy : ys.length + 1 < 17592186044416 := by omega
  have c1 : (0 : Int) ≤ (i : Int) := by omega
  have c2 : (i : Int) < (l.length : Int) := by omega
  induction d with
  | zero =>
    intro j hj h
    have : j = rs.length := by omega
    subst this
    rw [List.drop_eq_nil_of_le (by omega)] at h
    simp only [fI] at h
    have wj : wrap64 ((rs.length : Int) + 1) = ((rs.length + 1 : Nat) : Int) := by rw [wr (by omega) (by omega)]; omega
    refine Ev.step (fun k => ?_) h
    simp only [spec_FirstReels.l1]
    rw [if_neg (by omega)]
    simp only [Option.bind_some, List.length_cons, List.length_nil, Nat.zero_add, if_pos cy, wj, max_f, wi]
    rfl
  | succ d ih =>
    intro j hj h
    have hjl : j < rs.length := by omega
    rw [List.drop_eq_getElem_cons hjl] at h
    simp only [fI] at h
    have wj : wrap64 ((j : Int) + 1) = ((j + 1 : Nat) : Int) := by rw [wr (by omega) (by omega)]; omega
    have c0 : (j : Int) < (rs.length : Int) := by omega
    have hw := specWith_ev l ys (j : Int) (by omega) (by omega)
    rw [← hinv j hjl] at hw
    have hlen : rs[j].length ≤ l.length := by rw [hinv j hjl]; exact withL_len l ys _
    have es : (⟨(rd_T91 l (i : Int)).f0, (rd_T91 l (i : Int)).f1⟩ : IS) = l[i] := by rw [rdIS hi]
    have c3 : rs[j].length + 1 < 35184372088832 := by omega
    have hon := specOn_ev hm ok hold (rs[j] ++ [l[i]]) (by simp; omega) (by
      intro x hx
      rcases List.mem_append.1 hx with hx | hx
      · rw [hinv j hjl] at hx; exact ho x (withL_mem l ys _ x hx)
      · rw [List.mem_singleton.1 hx]; exact ho _ (List.getElem_mem _))
    refine Ev.step (fun k => by simp only [spec_FirstReels.l1, if_pos c0]; rfl) (Ev.bind hw ?_)
    simp only [if_pos c1, if_pos c2, es, Option.bind_some, List.length_cons, List.length_nil, Nat.zero_add, if_pos c3]
    refine Ev.bind hon ?_
    by_cases hp : onP [m0, m1, m2, m3, m4, m5] hold (rs[j] ++ [l[i]]) = true
    · simp only [hp, if_true] at h ⊢
      simp only [if_pos cy, wj, max_f, Option.bind_some, wi]
      exact h
    · rw [Bool.not_eq_true] at hp
      simp only [hp, Bool.false_eq_true, if_false] at h ⊢
      rw [wj]
      exact ih (j + 1) (by omega) h
theorem first_loop (d : Nat) : ∀ (i : Nat) (rs : List (List IS)) (ys : List Int), i + d = l.length → ys.length = i → rs.length ≤ i → (∀ k (h : k < rs.length), rs[k] = withL l ys (k : Int)) → (∀ k : Nat, rs.length ≤ k → withL l ys (k : Int) = []) →
    ∃ r : List Int × Int × Int, Ev (fun k => spec_FirstReels.l0 k hold l ys (rs.length : Int) (i : Int) m0 m1 m2 m3 m4 m5) r ∧ Ev (fun k => impl_FirstReels.l0 k rs ys l (l.length : Int) (i : Int) m0 m1 m2 m3 m4 m5 hold) r ∧ (r.1.length : Int) ≤ 8 := by
  induction d with
  | zero =>
    intro i rs ys hi hys hrs hinv hnil
    refine ⟨(ys, (rs.length : Int), 0), Ev.step (f := fun _ => some (ys, (rs.length : Int), 0)) (fun k => ?_) (Ev.now _), Ev.step (f := fun _ => some (ys, (rs.length : Int), 0)) (fun k => ?_) (Ev.now _), by simp only; omega⟩
    · simp only [spec_FirstReels.l0]; rw [if_neg (by omega)]
    · simp only [impl_FirstReels.l0]; rw [if_neg (by omega)]; rfl
  | succ d ih =>
    intro i rs ys hi hys hrs hinv hnil
    have hil : i < l.length := by omega
    have c1 : (0 : Int) ≤ (i : Int) := by omega
    have c2 : (i : Int) < (l.length : Int) := by omega
    have wi : wrap64 ((i : Int) + 1) = ((i + 1 : Nat) : Int) := by rw [wr (by omega) (by omega)]; omega
    have cy : ys.length < 17592186044416 := by omega
    have es : (⟨(rd_T91 l (i : Int)).f0, (rd_T91 l (i : Int)).f1⟩ : IS) = l[i] := by rw [rdIS hil]
    have snoc : ∀ (J : Nat) (r : Int), withL l (ys ++ [(J : Int)]) r = withL l ys r ++ (if (J : Int) = r then [l[i]] else []) := by
      intro J r
      have := withL_snoc l ys (J : Int) r (by omega)
      simp only [hys] at this; exact this
    obtain ⟨p, hpd⟩ : ∃ p : List IS → Bool, p = fun own => onP [m0, m1, m2, m3, m4, m5] hold (own ++ [l[i]]) := ⟨_, rfl⟩
    have S : ∀ R, Ev (fun k => spec_FirstReels.l0 k hold l (ys ++ [((fI p rs 0 : Nat) : Int)]) (if (rs.length : Int) > ((fI p rs 0 + 1 : Nat) : Int) then (rs.length : Int) else ((fI p rs 0 + 1 : Nat) : Int)) ((i + 1 : Nat) : Int) m0 m1 m2 m3 m4 m5) R → Ev (fun k => spec_FirstReels.l0 k hold l ys (rs.length : Int) (i : Int) m0 m1 m2 m3 m4 m5) R := by
      intro R h
      have z := seek_loop hm ok hold l hl ho rs ys i hil hys hrs hinv R rs.length 0 (by omega)
      rw [List.drop_zero, ← hpd] at z
      refine Ev.step (fun k => ?_) (z h)
      simp only [spec_FirstReels.l0, if_pos c2]; rfl
    have Q : Ev (fun k => impl_Strand_62.f rs (fun x_ => impl_FirstReels_1.f k x_ m0 m1 m2 m3 m4 m5 hold l[i].f0 l[i].f1)) (if fI p rs 0 < rs.length then ((fI p rs 0 : Nat) : Int) else -1) := by
      show Ev (fun k => idxG rs _) _
      unfold idxG
      have cl : (rs.length : Int) ≤ 4611686018427387904 := by omega
      simp only [if_pos cl]
      have z := idxO_ev (fun k x_ => impl_FirstReels_1.f k x_ m0 m1 m2 m3 m4 m5 hold l[i].f0 l[i].f1) p rs 0 (by
        intro x hx
        obtain ⟨k0, hk0, rfl⟩ := List.mem_iff_getElem.1 hx
        have hxl : rs[k0].length ≤ l.length := by rw [hinv k0 hk0]; exact withL_len l ys _
        unfold impl_FirstReels_1.f
        have e : impl_Strand_65.f rs[k0] = some rs[k0] := by
          show (if rs[k0].length * 4 ≤ 140737488355328 then some rs[k0] else none) = _
          rw [if_pos (by omega)]
        have c3 : rs[k0].length + 1 < 35184372088832 := by omega
        simp only [e, Option.bind_some, List.length_cons, List.length_nil, Nat.zero_add, if_pos c3]
        have hon := implOn_ev hm ok hold (rs[k0] ++ [l[i]]) (by simp; omega) (by
          intro x hx
          rcases List.mem_append.1 hx with hx | hx
          · rw [hinv k0 hk0] at hx; exact ho x (withL_mem l ys _ x hx)
          · rw [List.mem_singleton.1 hx]; exact ho _ (List.getElem_mem _))
        rw [hpd]
        exact Ev.bind hon (Ev.now _))
      simpa using z
    have fg := fI_ge p rs 0
    by_cases hf : fI p rs 0 < rs.length
    · rw [if_pos hf] at Q
      generalize fI p rs 0 = J at *
      have g1 : ¬ (J : Int) < 0 := by omega
      have g2 : (0 : Int) ≤ (J : Int) := by omega
      have g3 : (J : Int) < (rs.length : Int) := by omega
      have rJ : rd_L8 rs (J : Int) = rs[J] := by unfold rd_L8; simp [List.getD, hf]
      have hJl : rs[J].length ≤ l.length := by rw [hinv J hf]; exact withL_len l ys _
      have g4 : rs[J].length < 35184372088832 := by omega
      obtain ⟨r, e1, e2, e3⟩ := ih (i + 1) (rs.set J (rs[J] ++ [l[i]])) (ys ++ [(J : Int)]) (by omega) (by simp; omega) (by simp; omega)
        (by
          intro k h
          simp only [List.length_set] at h
          rw [List.getElem_set, snoc]
          by_cases e : J = k
          · subst e; rw [if_pos rfl, if_pos rfl, hinv J h]
          · rw [if_neg e, if_neg (by omega), List.append_nil]; exact hinv k h)
        (by
          intro k h
          simp only [List.length_set] at h
          rw [snoc, if_neg (by omega), List.append_nil]; exact hnil k h)
      simp only [List.length_set] at e1
      refine ⟨r, S r ?_, ?_, e3⟩
      · have : (if (rs.length : Int) > ((J + 1 : Nat) : Int) then (rs.length : Int) else ((J + 1 : Nat) : Int)) = (rs.length : Int) := by split <;> omega
        rw [this]; exact e1
      · refine Ev.step (fun k => by simp only [impl_FirstReels.l0, if_pos c2, if_pos c1, rdIS hil]; rfl) (Ev.bind Q ?_)
        simp only [if_neg g1, if_pos g2, if_pos g3, rJ, if_pos g4, if_pos cy, Int.toNat_natCast, wi]
        exact e2
    · rw [if_neg hf] at Q
      have hJ : fI p rs 0 = rs.length := by omega
      rw [hJ] at S
      have g1 : (-1 : Int) < 0 := by omega
      have g2 : rs.length < 5864062014805 := by omega
      have g3 : (0 : Int) ≤ (rs.length : Int) := by omega
      have g4 : (rs.length : Int) < ((rs ++ [([] : List IS)]).length : Int) := by simp; omega
      have rJ : rd_L8 (rs ++ [([] : List IS)]) (rs.length : Int) = [] := by unfold rd_L8; simp [List.getD]
      have g5 : ([] : List IS).length < 35184372088832 := by simp
      have eset : (rs ++ [([] : List IS)]).set (rs.length : Int).toNat ([] ++ [l[i]]) = rs ++ [[l[i]]] := by
        rw [Int.toNat_natCast, List.set_append_right _ _ (by omega)]; simp
      obtain ⟨r, e1, e2, e3⟩ := ih (i + 1) (rs ++ [[l[i]]]) (ys ++ [(rs.length : Int)]) (by omega) (by simp; omega) (by simp; omega)
        (by
          intro k h
          simp only [List.length_append, List.length_cons, List.length_nil] at h
          rw [snoc]
          by_cases e : k < rs.length
          · rw [List.getElem_append_left e, if_neg (by omega), List.append_nil]; exact hinv k e
          · have : k = rs.length := by omega
            subst this
            rw [hnil rs.length (Nat.le_refl _), if_pos rfl]
            simp)
        (by
          intro k h
          simp only [List.length_append, List.length_cons, List.length_nil] at h
          rw [snoc, if_neg (by omega), List.append_nil]; exact hnil k (by omega))
      have el : ((rs ++ [[l[i]]]).length : Int) = ((rs.length + 1 : Nat) : Int) := by simp
      rw [el] at e1
      refine ⟨r, S r ?_, ?_, e3⟩
      · have : (if (rs.length : Int) > ((rs.length + 1 : Nat) : Int) then (rs.length : Int) else ((rs.length + 1 : Nat) : Int)) = ((rs.length + 1 : Nat) : Int) := by split <;> omega
        rw [this]; exact e1
      · refine Ev.step (fun k => by simp only [impl_FirstReels.l0, if_pos c2, if_pos c1, rdIS hil]; rfl) (Ev.bind Q ?_)
        simp only [if_pos g1, if_pos g2, Option.bind_some, if_pos g3, if_pos g4, rJ, if_pos g5, if_pos cy, eset, wi]
        exact e2
end
theorem FirstReels_same {m0 m1 m2 m3 m4 m5 : Int} (hm : U8 m0 m1 m2 m3 m4 m5) (hold : Int) (l : List LS) (hl : (l.length : Int) ≤ 1048576) (hw : ∀ x ∈ l, (Lit.int .i16 x.f0).wf = true ∧ (Lit.int .u8 x.f1).wf = true) :
    ∃ q : List Int × Int × Int, Ev (fun k => spec_FirstReels.f k m0 m1 m2 m3 m4 m5 hold (l.map toS)) q ∧ Ev (fun k => impl_FirstReels.f k m0 m1 m2 m3 m4 m5 hold (l.map toS)) q ∧ (q.1.length : Int) ≤ 8 := by
  have hl' : ((l.map toS).length : Int) ≤ 1048576 := by simpa using hl
  have c1 := specCode_ev (m0 := m0) (m1 := m1) (m2 := m2) (m3 := m3) (m4 := m4) (m5 := m5) (l.map toS) (by omega) (decide (1 ≤ hold ∧ hold ≤ 2000))
  have c2 := implCode_ev hm hold (l.map toS) (by omega) true
  rw [Bool.and_true] at c2
  unfold spec_FirstReels.f impl_FirstReels.f impl_reelsCode.f
  simp only [hold_f, Option.bind_some]
  by_cases hc : codeS m0 m1 m2 m3 m4 m5 (l.map toS) (decide (1 ≤ hold ∧ hold ≤ 2000)) = 0
  · rw [hc] at c1 c2
    obtain ⟨ok, hv, h8, _⟩ := codeS_ok hc
    have ho := okS_of hw hv
    have h8' : (l.map toS).length ≤ 8 := by omega
    generalize l.map toS = L at *
    have a1 : Ev (fun k => spec_l04Alone.f k hold L) (L.all fun x => decide (x.f0 ≤ hold)) := by
      unfold spec_l04Alone.f
      have := alone_loop hold L (by omega) ho L.length 0 (by omega)
      simpa using this
    have a2 : impl_Strand_118.f L (fun x_ => impl_reelsCode_1.f x_.f0 x_.f1 hold) = some (L.all fun x => decide (x.f0 ≤ hold)) := by
      show allG L _ = _
      refine allG_on _ _ L (by omega) fun x hx => ?_
      have o := ho x hx
      unfold OkS at o
      unfold impl_reelsCode_1.f
      rw [wr (n := x.f0) (by omega) (by omega)]
    cases ha : L.all (fun x => decide (x.f0 ≤ hold)) with
    | true =>
      rw [ha] at a1 a2
      obtain ⟨r, e1, e2, e3⟩ := first_loop hm ok hold L h8' ho L.length 0 [] [] (by omega) rfl (by simp) (by simp) (by intro k _; exact withL_nil L _)
      refine ⟨r, Ev.bind c1 ?_, ?_, e3⟩
      · simp only [if_true]
        refine Ev.bind a1 ?_
        refine Ev.step (fun k => by simp only [spec_FirstReels.j0, Bool.not_true, Bool.false_eq_true, if_false]; rfl) (Ev.step (fun k => by simp only [spec_FirstReels.j1, if_true]; rfl) e1)
      · refine Ev.bind (?_ : Ev _ (0 : Int)) ?_
        · refine Ev.bind c2 ?_
          simp only [if_true, a2, Option.bind_some]; exact Ev.now _
        · simp only [if_true]; exact e2
    | false =>
      rw [ha] at a1 a2
      refine ⟨([], 0, 6), Ev.bind c1 ?_, ?_, by simp⟩
      · simp only [if_true]
        refine Ev.bind a1 ?_
        exact Ev.step (fun k => by simp only [spec_FirstReels.j0, Bool.not_false, if_true]; rfl) (Ev.step (f := fun _ => some ([], 0, 6)) (fun k => by simp [spec_FirstReels.j1]) (Ev.now _))
      · refine Ev.bind (?_ : Ev _ (6 : Int)) ?_
        · refine Ev.bind c2 ?_
          simp only [if_true, a2, Option.bind_some, Bool.false_eq_true, if_false]; exact Ev.now _
        · simp only [show ¬ (6 : Int) = 0 from by omega, if_false]; exact Ev.now _
  · refine ⟨([], 0, codeS m0 m1 m2 m3 m4 m5 (l.map toS) (decide (1 ≤ hold ∧ hold ≤ 2000))), Ev.bind c1 ?_, ?_, by simp⟩
    · simp only [if_neg hc]
      exact Ev.step (fun k => by simp only [spec_FirstReels.j0, Bool.false_eq_true, if_false]; rfl) (Ev.step (f := fun _ => some ([], 0, codeS m0 m1 m2 m3 m4 m5 (l.map toS) (decide (1 ≤ hold ∧ hold ≤ 2000)))) (fun k => by simp only [spec_FirstReels.j1, if_neg hc]) (Ev.now _))
    · refine Ev.bind (?_ : Ev _ (codeS m0 m1 m2 m3 m4 m5 (l.map toS) (decide (1 ≤ hold ∧ hold ≤ 2000)) : Int)) ?_
      · refine Ev.bind c2 ?_
        simp only [if_neg hc]; exact Ev.now _
      · simp only [if_neg hc]; exact Ev.now _
theorem FnExactFirstReels : laws_FnExactFirstReels.Pure := by
  intro m0 m1 m2 m3 m4 m5 hold l h0 h1 h2 h3 h4 h5 _ ⟨hl, hw⟩
  refine Ev.rounds ?_
  have hm := U8.mk h0 h1 h2 h3 h4 h5
  unfold laws_FnExactFirstReels.f
  simp only [szStrand_f l 1048576 (by omega) (by omega), Option.bind_some]
  by_cases h : (l.length : Int) ≤ 1048576
  · have hn : ¬ (1048576 - (l.length : Int) < 0) := by omega
    simp only [if_pos h, if_neg hn]
    have ts := toStrandS_ev l (by omega) (by omega)
    have t : laws_toMeets.f m0 m1 m2 m3 m4 m5 = some (m0, m1, m2, m3, m4, m5) := rfl
    obtain ⟨⟨w, y, c⟩, f1, f2, fl⟩ := FirstReels_same hm hold l h hw
    have hw : (w.length : Int) ≤ 4611686018427387904 := by simp only at fl; omega
    obtain ⟨s, m1, m2⟩ := markInt64S_ev w hw
    obtain ⟨s2, n2⟩ := markStrandS_ev (l.map toS) (by simp; omega)
    have hneg1 : ¬ (1 + 2 * ((l.map toS).length : Int) < 0) := by omega
    have hneg2 : ¬ (1 + (w.length : Int) < 0) := by omega
    simp only [t, Option.bind_some]
    refine Ev.bind ts (Ev.bind f1 (Ev.bind ts (Ev.bind f2 (Ev.bind (eqInt64S_self w hw) ?_))))
    simp only [if_true, bne_self_eq_false]
    refine Ev.step (fun k => by simp only [laws_FnExactFirstReels.j0, Bool.false_eq_true, if_false]; rfl) (Ev.bind ts (Ev.bind (eqStrandS_self (l.map toS) (by simp; omega)) ?_))
    simp only [if_true]
    refine Ev.bind n2 ?_
    simp only [if_neg hneg1]
    refine Ev.bind (eqInt64S_self w hw) ?_
    simp only [if_true, bne_self_eq_false]
    refine Ev.step (fun k => by simp only [laws_FnExactFirstReels.j1, Bool.false_eq_true, if_false]; rfl) (Ev.bind m1 (Ev.bind m2 ?_))
    simp only [if_neg hneg2, if_true, t, Option.bind_some]
    refine Ev.bind ts (Ev.bind f2 (Ev.bind (eqInt64S_self w hw) ?_))
    simp only [if_true, bne_self_eq_false]
    refine Ev.step (fun k => by simp only [laws_FnExactFirstReels.j2, Bool.false_eq_true, if_false]; rfl) (Ev.bind m2 ?_)
    simp only [if_neg hneg2, if_true]; exact Ev.now _
  · simp only [if_neg h, show ((-1 : Int) < 0) from by omega, if_true]; exact Ev.now _
end Go.Proofs.Ytjhafhejdlmcmaa.Pure
