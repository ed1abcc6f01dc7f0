/- The statement of FnExactYarnsText, over numbers, texts and lists alone; no conditions. -/
import Derived.Test.YtddhebmnhcilfaaDoorXFnExactYarnsTextx5
namespace Go.Proofs.YtddhebmnhcilfaaDoor.Pure
open Go.RowKit Go.Proofs.YtddhebmnhcilfaaDoor.XFnExactYarnsText Go.Proofs.YtddhebmnhcilfaaDoorW.PrintWords Go.Proofs.YtddhebmnhcilfaaDoorW.PrintLast
set_option linter.unusedVariables false
set_option linter.unusedSimpArgs false
theorem wr {n : Int} (h0 : -9223372036854775808 ≤ n) (h1 : n ≤ 9223372036854775807) : wrap64 n = n := by
  unfold wrap64; omega
theorem wf64 {a : Int} (h : (Lit.int .i64 a).wf = true) : -9223372036854775808 ≤ a ∧ a ≤ 9223372036854775807 := by
  simp only [Lit.wf, IntKind.min, IntKind.max, IntKind.signed, IntKind.bits, Bool.and_eq_true, decide_eq_true_eq, if_true] at h
  omega
theorem ev_id {α : Type} {g : Nat → Option α} {r s : α} (h : Ev g r) (e : r = s) : Ev g s := e ▸ h
theorem ev_const {α : Type} {o : Option α} {r : α} (h : o = some r) : Ev (fun _ => o) r := ⟨0, fun _ _ => h⟩
theorem ev_fun {α : Type} {g : Nat → Option α} {r s : α} (h : Ev g r) (k : Ev g s) : r = s := by
  obtain ⟨a, h⟩ := h
  obtain ⟨b, k⟩ := k
  have x := h (max a b) (by omega)
  have y := k (max a b) (by omega)
  rw [x] at y; exact Option.some.inj y
/-- Both come to one answer. -/
def Same {α : Type} (g f : Nat → Option α) : Prop := ∃ r, Ev g r ∧ Ev f r
theorem Same.step {α : Type} {g f g' f' : Nat → Option α} (hg : ∀ k, g (k + 1) = g' k) (hf : ∀ k, f (k + 1) = f' k) (h : Same g' f') : Same g f := by
  obtain ⟨r, a, b⟩ := h
  exact ⟨r, Ev.step hg a, Ev.step hf b⟩
theorem Same.left {α : Type} {g f g' : Nat → Option α} (hg : ∀ k, g (k + 1) = g' k) (h : Same g' f) : Same g f := by
  obtain ⟨r, a, b⟩ := h
  exact ⟨r, Ev.step hg a, b⟩
theorem Same.right {α : Type} {g f f' : Nat → Option α} (hf : ∀ k, f (k + 1) = f' k) (h : Same g f') : Same g f := by
  obtain ⟨r, a, b⟩ := h
  exact ⟨r, a, Ev.step hf b⟩
theorem Same.now {α : Type} (r : α) : Same (fun _ => some r) (fun _ => some r) := ⟨r, Ev.now r, Ev.now r⟩
theorem if_dec {α : Type} {p : Prop} [Decidable p] (a b : α) : (if decide p = true then a else b) = if p then a else b := by
  by_cases h : p <;> simp [h]
theorem w00 : wrap64 0 = 0 := wr (by omega) (by omega)
theorem rd_lt {l : List Int} {i : Nat} (h : i < l.length) : rd l (i : Int) = l[i] := by
  unfold rd; simp [List.getD, h]
theorem l00In_f (a b c : Int) : spec_l00In.f a b c = some (decide (b ≤ a ∧ a ≤ c)) := by
  unfold spec_l00In.f
  by_cases h : b ≤ a <;> simp [h]
theorem within_f (a b c : Int) : impl_within.f a b c = some (decide (b ≤ a ∧ a ≤ c)) := by
  unfold impl_within.f
  by_cases h : b ≤ a <;> simp [h]
theorem allO_some {α : Type} (p : α → Bool) : ∀ l : List α, allO (fun x => some (p x)) l = some (l.all p)
  | [] => rfl
  | x :: l => by
    simp only [allO, Option.bind_some, List.all_cons, allO_some p l]
    cases p x <;> simp
theorem allG_some {α : Type} (p : α → Bool) (l : List α) (h : (l.length : Int) ≤ 4611686018427387904) : allG l (fun x => some (p x)) = some (l.all p) := by
  unfold allG; rw [if_pos h, allO_some]
abbrev LY := S66
abbrev IY := S58
def toY (x : LY) : IY := ⟨x.f0, x.f1, x.f2⟩
theorem rdIY {l : List IY} {i : Nat} (h : i < l.length) : rd_T58 l (i : Int) = l[i] := by
  unfold rd_T58; simp [List.getD, h]
theorem rdLY {l : List LY} {i : Nat} (h : i < l.length) : rd_T66 l (i : Int) = l[i] := by
  unfold rd_T66; simp [List.getD, h]
theorem szYarn_f (l : List LY) (n : Int) (h0 : (l.length : Int) ≤ 140737488351232) (hn : 0 ≤ n ∧ n ≤ 1048576) : laws_szYarnS.f l n = some (if (l.length : Int) ≤ n then n - l.length else -1) := by
  unfold laws_szYarnS.f
  rw [wr (by omega) (by omega)]
  by_cases h : (l.length : Int) ≤ n
  · rw [if_neg (by omega), if_pos h]
  · rw [if_pos (by omega), if_neg h]
theorem toYarnS_loop (l : List LY) (hl : (l.length : Int) ≤ 140737488351232) (d : Nat) : ∀ (out rest : List IY) (i : Nat), out.length = i → rest.length = d → i + d = l.length →
    Ev (fun k => laws_toYarnS.l0 k l (out ++ rest) (i : Int)) (out ++ (l.drop i).map toY) := by
  induction d with
  | zero =>
    intro out rest i ho hr hi
    refine Ev.step (f := fun _ => some (out ++ (l.drop i).map toY)) (fun k => ?_) (Ev.now _)
    simp only [laws_toYarnS.l0]
    rw [if_neg (by omega), List.drop_eq_nil_of_le (by omega), List.length_eq_zero_iff.1 hr]; simp
  | succ d ih =>
    intro out rest i ho hr hi
    have hil : i < l.length := by omega
    obtain ⟨y, rest, rfl⟩ : ∃ y r, rest = y :: r := by cases rest with | nil => simp at hr | cons y r => exact ⟨y, r, rfl⟩
    refine Ev.step (fun k => ?_) (ev_id (ih (out ++ [toY l[i]]) rest (i + 1) (by simp; omega) (by simpa using hr) (by omega)) ?_)
    · simp only [laws_toYarnS.l0, laws_toYarn.f, Option.bind_some]
      rw [if_pos (by omega), if_pos (by omega), if_pos (by simp; omega), rdLY hil, wr (n := (i : Int) + 1) (by omega) (by omega)]
      have : (out ++ y :: rest).set (i : Int).toNat (⟨l[i].f0, l[i].f1, l[i].f2⟩ : IY) = out ++ [toY l[i]] ++ rest := by
        rw [Int.toNat_natCast, List.set_append_right _ _ (by omega), ho]; simp [toY]
      rw [this]; rfl
    · rw [List.drop_eq_getElem_cons hil]; simp only [List.map_cons, List.append_assoc, List.cons_append, List.nil_append]
theorem toYarnS_ev (l : List LY) (hl : (l.length : Int) ≤ 140737488351232) (hl2 : l.length ≤ 46912496118442) : Ev (fun k => laws_toYarnS.f k l) (l.map toY) := by
  unfold laws_toYarnS.f
  have h0 : (0 : Int) ≤ (l.length : Int) := by omega
  have h1 : ((l.length : Int) : Int).toNat ≤ 46912496118442 := by omega
  simp only [if_pos h0, if_pos h1]
  have := toYarnS_loop l hl l.length [] (List.replicate l.length z58) 0 rfl (by simp) (by omega)
  simpa using this
theorem eqYarnS_loop (l : List IY) (hl : (l.length : Int) ≤ 140737488351232) (d : Nat) : ∀ (i : Nat), i + d = l.length → Ev (fun k => laws_eqYarnS.l0 k l l (i : Int)) true := by
  induction d with
  | zero =>
    intro i hi
    refine Ev.step (f := fun _ => some true) (fun k => ?_) (Ev.now _)
    simp only [laws_eqYarnS.l0]; rw [if_neg (by omega)]
  | succ d ih =>
    intro i hi
    refine Ev.step (fun k => ?_) (ih (i + 1) (by omega))
    simp only [laws_eqYarnS.l0, laws_eqYarn.f, if_true, Option.bind_some]
    rw [if_pos (by omega), if_pos (by omega), if_pos (by omega), wr (n := (i : Int) + 1) (by omega) (by omega)]; rfl
theorem eqYarnS_self (l : List IY) (hl : (l.length : Int) ≤ 140737488351232) : Ev (fun k => laws_eqYarnS.f k l l) true := by
  unfold laws_eqYarnS.f
  simp only [if_true]
  exact eqYarnS_loop l hl l.length 0 (by omega)
/-- What a valid yarn is. -/
def vY (x : IY) : Bool := decide ((1 ≤ wrap64 x.f0 ∧ wrap64 x.f0 ≤ 5000) ∧ (-2000 ≤ wrap64 x.f1 ∧ wrap64 x.f1 ≤ 2000) ∧ (1 ≤ wrap64 x.f2 ∧ wrap64 x.f2 ≤ 2000))
theorem vY_spec (x : IY) : spec_l03Yarn.f x.f0 x.f1 x.f2 = some (vY x) := by
  unfold spec_l03Yarn.f vY
  simp only [l00In_f, Option.bind_some, if_dec]
  by_cases h1 : 1 ≤ wrap64 x.f0 ∧ wrap64 x.f0 ≤ 5000 <;> by_cases h2 : -2000 ≤ wrap64 x.f1 ∧ wrap64 x.f1 ≤ 2000 <;> simp [h1, h2]
theorem vY_impl (x : IY) : impl_ValidYarn.f x.f0 x.f1 x.f2 = some (vY x) := by
  unfold impl_ValidYarn.f vY
  simp only [within_f, Option.bind_some, if_dec]
  by_cases h1 : 1 ≤ wrap64 x.f0 ∧ wrap64 x.f0 ≤ 5000 <;> by_cases h2 : -2000 ≤ wrap64 x.f1 ∧ wrap64 x.f1 ≤ 2000 <;> simp [h1, h2]
theorem vYarn_eq : vYarn = vY := by
  funext x
  have h := vYarn_f x
  rw [vY_impl] at h
  exact (Option.some.inj h).symm
/-- The code of yarns. -/
def yCode (l : List IY) (b : Bool) : Int := if l.all vY = true then (if b = true then (if (l.length : Int) > 10 then 3 else 0) else 2) else 1
theorem impl_yCode (l : List IY) (b : Bool) (hl : (l.length : Int) ≤ 140737488351232) : impl_yarnsCode.f l b = some (yCode l b) := by
  unfold impl_yarnsCode.f yCode
  rw [if_pos (by omega), vYarn_eq]
theorem spec_yCode_loop (l : List IY) (b : Bool) (hl : (l.length : Int) ≤ 140737488351232) (d : Nat) : ∀ (i : Nat), i + d = l.length → (∀ x ∈ l.take i, vY x = true) →
    Ev (fun k => spec_l03Asked.l0 k l b (i : Int)) (yCode l b) := by
  induction d with
  | zero =>
    intro i hi ha
    refine Ev.step (f := fun _ => some (yCode l b)) (fun k => ?_) (Ev.now _)
    simp only [spec_l03Asked.l0]
    have : l.all vY = true := by
      rw [List.all_eq_true]; intro x hx; exact ha x (by rw [List.take_of_length_le (by omega)]; exact hx)
    rw [if_neg (by omega)]
    unfold yCode
    rw [if_pos this]
    cases b <;> simp <;> split <;> rfl
  | succ d ih =>
    intro i hi ha
    have hil : i < l.length := by omega
    cases hv : vY l[i] with
    | true =>
      refine Ev.step (fun k => ?_) (ih (i + 1) (by omega) ?_)
      · simp only [spec_l03Asked.l0, rdIY hil, vY_spec, Option.bind_some, hv, if_true]
        rw [if_pos (by omega), if_pos (by omega), wr (n := (i : Int) + 1) (by omega) (by omega)]; rfl
      · intro x hx
        rw [List.take_succ_eq_append_getElem hil] at hx
        rcases List.mem_append.1 hx with h | h
        · exact ha x h
        · simp at h; rw [h]; exact hv
    | false =>
      refine Ev.step (f := fun _ => some (yCode l b)) (fun k => ?_) (Ev.now _)
      simp only [spec_l03Asked.l0, rdIY hil, vY_spec, Option.bind_some, hv]
      rw [if_pos (by omega), if_pos (by omega)]
      have : ¬ l.all vY = true := by
        intro h
        have := List.all_eq_true.1 h l[i] (List.getElem_mem _)
        rw [hv] at this; cases this
      unfold yCode
      rw [if_neg this]; simp
theorem spec_yCode (l : List IY) (b : Bool) (hl : (l.length : Int) ≤ 140737488351232) : Ev (fun k => spec_l03Asked.f k l b) (yCode l b) := by
  unfold spec_l03Asked.f
  exact spec_yCode_loop l b hl l.length 0 (by omega) (by simp)
theorem yCode_zero {l : List IY} {b : Bool} (h : yCode l b = 0) : (∀ x ∈ l, vY x = true) ∧ b = true ∧ l.length ≤ 10 := by
  unfold yCode at h
  by_cases h1 : l.all vY = true
  · rw [if_pos h1] at h
    by_cases h2 : b = true
    · rw [if_pos h2] at h
      by_cases h3 : (l.length : Int) > 10
      · rw [if_pos h3] at h; omega
      · exact ⟨List.all_eq_true.1 h1, h2, by omega⟩
    · rw [if_neg h2] at h; omega
  · rw [if_neg h1] at h; omega
theorem wadd (a b : Int) : wrap64 (wrap64 a + b) = wrap64 (a + b) := by unfold wrap64; omega
theorem wsum (a b : Int) : wrap64 (a + wrap64 b) = wrap64 (a + b) := by unfold wrap64; omega
/-- A number's numeral. -/
def dec (n : Nat) : ByteArray := ⟨(Lib.decDigits n).toArray⟩
theorem ba_ext {a b : ByteArray} (h : a.data.toList = b.data.toList) : a = b := by
  cases a; cases b
  congr 1
  exact Array.toList_inj.1 h
theorem ba_app (a b : ByteArray) : (a ++ b).data.toList = a.data.toList ++ b.data.toList := by simp
theorem ba_size (a : ByteArray) : a.size = a.data.toList.length := by cases a; rfl
theorem dec_data (n : Nat) : (dec n).data.toList = Lib.decDigits n := by simp [dec]
theorem dec_size (n : Nat) (h : n ≤ 9223372036854775807) : (dec n).size ≤ 20 := by
  rw [ba_size, dec_data, Lib.decDigits_length]
  exact Lib.nDigits_le20 n (by omega)
theorem dec_step {n : Nat} (h : ¬ n < 10) : dec n = dec (n / 10) ++ dec (n % 10) := by
  apply ba_ext
  rw [ba_app, dec_data, dec_data, dec_data]
  conv => lhs; rw [Lib.decDigits, dif_neg h]
  rw [Lib.decDigits_one (show n % 10 < 10 by omega)]
theorem dec_one {n : Nat} (h : n < 10) : strOfNums [(wrap64 (48 + (Int.tmod (n : Int) 10))) % 256] = dec n := by
  apply ba_ext
  rw [dec_data, Lib.decDigits_one h]
  have e : Int.tmod (n : Int) 10 = (n : Int) := by rw [Int.tmod_eq_emod_of_nonneg (by omega)]; omega
  rw [e, wr (by omega) (by omega), show (48 + (n : Int)) % 256 = ((48 + n : Nat) : Int) by omega]
  show [UInt8.ofNat (((48 + n : Nat) : Int)).toNat] = _
  rw [Int.toNat_natCast]
theorem Decimal_ev : ∀ n : Nat, n ≤ 9223372036854775807 → Ev (fun k => spec_Decimal.f k (n : Int)) (dec n) := by
  intro n
  induction n using Nat.strongRecOn with
  | _ n ih =>
    intro hn
    by_cases h : n < 10
    · refine Ev.step (f := fun _ => some (dec n)) (fun k => ?_) (Ev.now _)
      rw [spec_Decimal.f, if_pos (by omega), dec_one h]
    · have e1 : Int.tdiv (n : Int) 10 = ((n / 10 : Nat) : Int) := by rw [Int.tdiv_eq_ediv_of_nonneg (by omega)]; omega
      have e2 : Int.tmod (n : Int) 10 = Int.tmod ((n % 10 : Nat) : Int) 10 := by rw [Int.tmod_eq_emod_of_nonneg (by omega), Int.tmod_eq_emod_of_nonneg (by omega)]; omega
      refine Ev.step (f := fun k => (spec_Decimal.f k ((n / 10 : Nat) : Int)).bind fun t => if t.size + (dec (n % 10)).size ≤ 9223372036854775807 then some (t ++ dec (n % 10)) else none) (fun k => ?_) (Ev.bind (ih (n / 10) (by omega) (by omega)) ?_)
      · rw [spec_Decimal.f, if_neg (by omega), e1, wr (n := ((n / 10 : Nat) : Int)) (by omega) (by omega), e2]
        simp only [Option.bind_some, dec_one (show n % 10 < 10 by omega)]
      · have a1 := dec_size (n / 10) (by omega)
        have a2 := dec_size (n % 10) (by omega)
        simp only [if_pos (show (dec (n / 10)).size + (dec (n % 10)).size ≤ 9223372036854775807 by omega)]
        exact ev_id (Ev.now _) (dec_step h).symm
theorem decimal_f (n : Nat) (h : n ≤ 9223372036854775807) : impl_decimal.f (n : Int) = some (dec n) := by
  unfold impl_decimal.f
  rw [if_pos (by omega), Lib.itoa_nonneg]; rfl
/-- Texts, blanks between. -/
def J (b : UInt8) (ws : List ByteArray) : ByteArray := ⟨(Lib.join (ws.map (·.data.toList)) [b]).toArray⟩
theorem joinTail_snoc (s : List UInt8) (r : List (List UInt8)) (x : List UInt8) : Lib.joinTail s (r ++ [x]) = Lib.joinTail s r ++ (s ++ x) := by simp [Lib.joinTail]
theorem J_one (b : UInt8) (w : ByteArray) : J b [w] = w := by
  apply ba_ext; simp [J, Lib.join_one]
theorem J_nil (b : UInt8) : J b [] = (⟨#[]⟩ : ByteArray) := rfl
theorem J_snoc (b : UInt8) (ws : List ByteArray) (w : ByteArray) (h : ws ≠ []) : J b (ws ++ [w]) = J b ws ++ (⟨#[b]⟩ : ByteArray) ++ w := by
  cases ws with
  | nil => exact absurd rfl h
  | cons a r =>
    apply ba_ext
    rw [ba_app, ba_app]
    simp only [J, List.cons_append, List.map_cons, List.map_append, List.map_nil, Lib.join_cons, joinTail_snoc]
    simp
theorem J_size (b : UInt8) (ws : List ByteArray) (m : Nat) (h : ∀ w ∈ ws, w.size ≤ m) : (J b ws).size ≤ (m + 1) * ws.length := by
  have : ∀ d : Nat, ∀ ws : List ByteArray, ws.length = d → (∀ w ∈ ws, w.size ≤ m) → (J b ws).size ≤ (m + 1) * ws.length := by
    intro d
    induction d with
    | zero => intro ws hl _; rw [List.length_eq_zero_iff.1 hl, J_nil]; exact Nat.zero_le _
    | succ d ih =>
      intro ws hl hw
      obtain ⟨a, x, rfl⟩ : ∃ a x, ws = a ++ [x] := ⟨ws.dropLast, ws.getLast (by intro e; rw [e] at hl; simp at hl), (List.dropLast_concat_getLast _).symm⟩
      have hx := hw x (by simp)
      by_cases ha : a = []
      · subst ha; rw [List.nil_append, J_one]; simp; omega
      · rw [J_snoc b a x ha, ByteArray.size_append, ByteArray.size_append]
        have i := ih a (by simp at hl; omega) (fun w z => hw w (by simp [z]))
        have : (⟨#[b]⟩ : ByteArray).size = 1 := rfl
        rw [List.length_append, List.length_singleton, Nat.mul_add]
        omega
  exact this ws.length ws rfl h
/-- A number's numeral, with its sign. -/
def sgn (n : Int) : ByteArray := ⟨(Lib.itoa n).toArray⟩
theorem sgn_nonneg (n : Nat) : sgn (n : Int) = dec n := by
  unfold sgn dec
  rw [Lib.itoa_nonneg]
theorem sgn_neg {n : Int} (h : n < 0) : sgn n = (⟨#[45]⟩ : ByteArray) ++ dec (-n).toNat := by
  apply ba_ext
  rw [ba_app, dec_data]
  have : n.natAbs = (-n).toNat := by omega
  simp [sgn, Lib.itoa, h, this]
theorem sgn_size (n : Int) (h0 : -9223372036854775807 ≤ n) (h1 : n ≤ 9223372036854775807) : (sgn n).size ≤ 21 := by
  by_cases h : n < 0
  · rw [sgn_neg h, ByteArray.size_append]
    have := dec_size (-n).toNat (by omega)
    have e : (⟨#[45]⟩ : ByteArray).size = 1 := rfl
    omega
  · obtain ⟨m, rfl⟩ := Int.eq_ofNat_of_zero_le (show 0 ≤ n by omega)
    rw [sgn_nonneg]
    have := dec_size m (by omega)
    omega
theorem decimal_sgn (n : Int) (h0 : -9223372036854775808 ≤ n) (h1 : n ≤ 9223372036854775807) : impl_decimal.f n = some (sgn n) := by
  unfold impl_decimal.f
  rw [if_pos ⟨h0, h1⟩]; rfl
theorem Signed_ev (n : Int) (h0 : -9223372036854775807 ≤ n) (h1 : n ≤ 9223372036854775807) : Ev (fun k => spec_l03Signed.f k n) (sgn n) := by
  unfold spec_l03Signed.f
  by_cases h : n < 0
  · have e : wrap64 (-n) = (((-n).toNat : Nat) : Int) := by rw [wr (by omega) (by omega)]; omega
    have s := dec_size (-n).toNat (by omega)
    simp only [if_pos h, e]
    refine Ev.bind (Decimal_ev (-n).toNat (by omega)) ?_
    simp only [if_pos (show 1 + (dec (-n).toNat).size ≤ 9223372036854775807 by omega)]
    exact ev_id (Ev.now _) (sgn_neg h).symm
  · obtain ⟨m, rfl⟩ := Int.eq_ofNat_of_zero_le (show 0 ≤ n by omega)
    simp only [if_neg h]
    exact Ev.bind (Decimal_ev m (by omega)) (ev_id (Ev.now _) (sgn_nonneg m).symm)
theorem join_f (b : UInt8) (ws : List ByteArray) (h : (J b ws).size ≤ 140737488355328) (hl : ws.length ≤ 140737488355328) : strings_Join.f ws (⟨#[b]⟩ : ByteArray) = some (J b ws) := by
  unfold strings_Join.f
  have hj : (Lib.join (ws.map (·.data.toList)) (⟨#[b]⟩ : ByteArray).data.toList).length = (J b ws).size := by
    rw [ba_size]; simp [J]
  rw [if_pos ⟨by rw [hj]; exact h, hl⟩]
  rfl
theorem joined_loop (b : UInt8) (ns : List Int) (hn : ns.length ≤ 1000) (hv : ∀ x ∈ ns, -9223372036854775807 ≤ x ∧ x ≤ 9223372036854775807) (d : Nat) : ∀ (i : Nat), i + d = ns.length → Ev (fun k => impl_joined.l0 k (⟨#[b]⟩ : ByteArray) ((ns.take i).map sgn) ns (ns.length : Int) (i : Int)) (J b (ns.map sgn)) := by
  induction d with
  | zero =>
    intro i hi
    refine Ev.step (f := fun _ => some (J b (ns.map sgn))) (fun k => ?_) (Ev.now _)
    rw [impl_joined.l0, if_neg (by omega), List.take_of_length_le (by omega), join_f b _ ?_ (by rw [List.length_map]; omega)]
    · rfl
    · have z := J_size b (ns.map sgn) 21 (fun w hw => by
        obtain ⟨x, hx, rfl⟩ := List.mem_map.1 hw
        exact sgn_size x (hv x hx).1 (hv x hx).2)
      rw [List.length_map] at z
      omega
  | succ d ih =>
    intro i hi
    have hil : i < ns.length := by omega
    have ih1 := ih (i + 1) (by omega)
    clear ih
    have hx := hv ns[i] (List.getElem_mem hil)
    have ht : (ns.take (i + 1)).map sgn = (ns.take i).map sgn ++ [sgn ns[i]] := by rw [List.take_succ_eq_append_getElem hil, List.map_append]; rfl
    have hlen : ((ns.take i).map sgn).length < 8796093022208 := by
      rw [List.length_map]
      exact Nat.lt_of_le_of_lt (List.length_take_le _ _) (Nat.lt_of_lt_of_le hil (Nat.le_trans hn (by decide)))
    have wx : wrap64 ((i : Int) + 1) = ((i + 1 : Nat) : Int) := by rw [wr (by omega) (by omega)]; omega
    rw [ht] at ih1
    refine Ev.step (fun k => ?_) ih1
    rw [impl_joined.l0, if_pos (by omega), if_pos (by omega), if_pos (by omega), rd_lt hil, decimal_sgn _ (by omega) (by omega), Option.bind_some, if_pos hlen, wx]
theorem joined_ev (b : UInt8) (ns : List Int) (hn : ns.length ≤ 1000) (hv : ∀ x ∈ ns, -9223372036854775807 ≤ x ∧ x ≤ 9223372036854775807) : Ev (fun k => impl_joined.f k ns (⟨#[b]⟩ : ByteArray)) (J b (ns.map sgn)) := by
  unfold impl_joined.f
  exact joined_loop b ns hn hv ns.length 0 (by omega)
/-- A yarn's word. -/
def yWord (x : IY) : ByteArray := dec x.f0.toNat ++ (⟨#[47]⟩ : ByteArray) ++ sgn x.f1 ++ (⟨#[47]⟩ : ByteArray) ++ dec x.f2.toNat
def okY (x : IY) : Prop := (1 ≤ x.f0 ∧ x.f0 ≤ 5000) ∧ (-2000 ≤ x.f1 ∧ x.f1 ≤ 2000) ∧ (1 ≤ x.f2 ∧ x.f2 ≤ 2000)
theorem yWord_size (x : IY) (h : okY x) : (yWord x).size ≤ 63 := by
  obtain ⟨h1, h2, h3⟩ := h
  have a := dec_size x.f0.toNat (by omega)
  have b := sgn_size x.f1 (by omega) (by omega)
  have c := dec_size x.f2.toNat (by omega)
  have : (⟨#[47]⟩ : ByteArray).size = 1 := rfl
  unfold yWord
  rw [ByteArray.size_append, ByteArray.size_append, ByteArray.size_append, ByteArray.size_append]; omega
theorem jY_size (l : List IY) (hl : l.length ≤ 10) (hv : ∀ x ∈ l, okY x) : (J 32 (l.map yWord)).size ≤ 640 := by
  have z := J_size 32 (l.map yWord) 63 (fun w hw => by
    obtain ⟨x, hx, rfl⟩ := List.mem_map.1 hw
    exact yWord_size x (hv x hx))
  rw [List.length_map] at z
  exact Nat.le_trans z (Nat.mul_le_mul_left 64 hl)
theorem yWord_join (x : IY) (h : okY x) : J 47 ([x.f0, x.f1, x.f2].map sgn) = yWord x := by
  obtain ⟨h1, h2, h3⟩ := h
  have e0 : sgn x.f0 = dec x.f0.toNat := by have z := sgn_nonneg x.f0.toNat; rwa [show ((x.f0.toNat : Nat) : Int) = x.f0 by omega] at z
  have e2 : sgn x.f2 = dec x.f2.toNat := by have z := sgn_nonneg x.f2.toNat; rwa [show ((x.f2.toNat : Nat) : Int) = x.f2 by omega] at z
  show J 47 [sgn x.f0, sgn x.f1, sgn x.f2] = _
  rw [show [sgn x.f0, sgn x.f1, sgn x.f2] = [sgn x.f0, sgn x.f1] ++ [sgn x.f2] from rfl, J_snoc _ _ _ (by simp), show [sgn x.f0, sgn x.f1] = [sgn x.f0] ++ [sgn x.f1] from rfl, J_snoc _ _ _ (by simp), J_one, e0, e2]
  rfl
theorem map_take_ne {α β : Type} (f : α → β) (l : List α) (i : Nat) (hi : i < l.length) (h0 : i ≠ 0) : (l.take i).map f ≠ [] := fun e => by
  have := congrArg List.length e
  rw [List.length_map, List.length_take, List.length_nil] at this
  omega
theorem specY_loop (l : List IY) (hl : l.length ≤ 10) (hv : ∀ x ∈ l, okY x) (d : Nat) : ∀ (i : Nat), i + d = l.length → Ev (fun k => spec_l03Text.l0 k l (J 32 ((l.take i).map yWord)) (i : Int)) (J 32 (l.map yWord)) := by
  induction d with
  | zero =>
    intro i hi
    refine Ev.step (f := fun _ => some (J 32 (l.map yWord))) (fun k => ?_) (Ev.now _)
    rw [spec_l03Text.l0, if_neg (by omega), List.take_of_length_le (by omega)]
  | succ d ih =>
    intro i hi
    have hil : i < l.length := by omega
    have ih1 := ih (i + 1) (by omega)
    clear ih
    obtain ⟨h1, h2, h3⟩ := hv l[i] (List.getElem_mem hil)
    have w0 : wrap64 (l[i].f0) = ((l[i].f0.toNat : Nat) : Int) := by rw [wr (by omega) (by omega)]; omega
    have w1 : wrap64 (l[i].f1) = l[i].f1 := by rw [wr (by omega) (by omega)]
    have w2 : wrap64 (l[i].f2) = ((l[i].f2.toNat : Nat) : Int) := by rw [wr (by omega) (by omega)]; omega
    have q1 : (i : Int) < (l.length : Int) := by omega
    have q2 : (0 : Int) ≤ (i : Int) := by omega
    have wx : wrap64 ((i : Int) + 1) = ((i + 1 : Nat) : Int) := by rw [wr (by omega) (by omega)]; omega
    have ht : (l.take (i + 1)).map yWord = (l.take i).map yWord ++ [yWord l[i]] := by rw [List.take_succ_eq_append_getElem hil, List.map_append]; rfl
    have js := jY_size (l.take i) (by rw [List.length_take]; exact Nat.le_trans (Nat.min_le_right _ _) hl) (fun x hx => hv x (List.mem_of_mem_take hx))
    have hne : i ≠ 0 → (l.take i).map yWord ≠ [] := map_take_ne yWord l i hil
    have d0 := Decimal_ev l[i].f0.toNat (by omega)
    have d1 := Signed_ev l[i].f1 (by omega) (by omega)
    have d2 := Decimal_ev l[i].f2.toNat (by omega)
    have a := dec_size l[i].f0.toNat (by omega)
    have b := sgn_size l[i].f1 (by omega) (by omega)
    have c := dec_size l[i].f2.toNat (by omega)
    have hw : yWord l[i] = dec l[i].f0.toNat ++ (⟨#[47]⟩ : ByteArray) ++ sgn l[i].f1 ++ (⟨#[47]⟩ : ByteArray) ++ dec l[i].f2.toNat := rfl
    rw [ht] at ih1
    clear ht hl hi h1 h2 h3
    generalize dec l[i].f0.toNat = D0 at d0 a hw
    generalize sgn l[i].f1 = D1 at d1 b hw
    generalize dec l[i].f2.toNat = D2 at d2 c hw
    generalize l[i].f0.toNat = n0 at d0 w0
    generalize l[i].f2.toNat = n2 at d2 w2
    generalize hX : (l.take i).map yWord = X at *
    have s1 : (⟨#[47]⟩ : ByteArray).size = 1 := rfl
    have s2 : (⟨#[32]⟩ : ByteArray).size = 1 := rfl
    have e0 : D0.size + 1 ≤ 9223372036854775807 := by omega
    have e1 : (D0 ++ (⟨#[47]⟩ : ByteArray)).size + D1.size ≤ 9223372036854775807 := by rw [ByteArray.size_append]; omega
    have e2 : (D0 ++ (⟨#[47]⟩ : ByteArray) ++ D1).size + 1 ≤ 9223372036854775807 := by rw [ByteArray.size_append, ByteArray.size_append]; omega
    have e3 : (D0 ++ (⟨#[47]⟩ : ByteArray) ++ D1 ++ (⟨#[47]⟩ : ByteArray)).size + D2.size ≤ 9223372036854775807 := by rw [ByteArray.size_append, ByteArray.size_append, ByteArray.size_append]; omega
    by_cases h0 : i = 0
    · subst h0
      rw [List.take_zero, List.map_nil] at hX
      subst hX
      rw [List.nil_append, J_one] at ih1
      refine Ev.step (fun k => by rw [spec_l03Text.l0, if_pos q1, if_neg (show ¬ ((0 : Nat) : Int) > 0 by decide), if_pos q2, rdIY hil, w0]) (Ev.bind d0 ?_)
      simp only [if_pos e0, rdIY hil, w1]
      refine Ev.bind d1 ?_
      simp only [if_pos e1, if_pos e2, rdIY hil, w2]
      refine Ev.bind d2 ?_
      have e4 : (J 32 []).size + (D0 ++ (⟨#[47]⟩ : ByteArray) ++ D1 ++ (⟨#[47]⟩ : ByteArray) ++ D2).size ≤ 9223372036854775807 := by
        rw [ByteArray.size_append, ByteArray.size_append, ByteArray.size_append, ByteArray.size_append]; omega
      simp only [if_pos e3, if_pos e4, wx]
      have e5 : J 32 [] ++ (D0 ++ (⟨#[47]⟩ : ByteArray) ++ D1 ++ (⟨#[47]⟩ : ByteArray) ++ D2) = yWord l[0] := by
        rw [hw, J_nil]
        apply ba_ext
        rw [ba_app]; rfl
      rw [e5]; exact ih1
    · have q5 : (i : Int) > 0 := Int.ofNat_lt.2 (Nat.pos_of_ne_zero h0)
      have q4 : (J 32 X).size + 1 ≤ 9223372036854775807 := by omega
      rw [J_snoc 32 X _ (hne h0), hw] at ih1
      refine Ev.step (fun k => by rw [spec_l03Text.l0, if_pos q1, if_pos q5, if_pos q4, if_pos q2, rdIY hil, w0]) (Ev.bind d0 ?_)
      simp only [if_pos e0, rdIY hil, w1]
      refine Ev.bind d1 ?_
      simp only [if_pos e1, if_pos e2, rdIY hil, w2]
      refine Ev.bind d2 ?_
      have e4 : (J 32 X ++ (⟨#[32]⟩ : ByteArray)).size + (D0 ++ (⟨#[47]⟩ : ByteArray) ++ D1 ++ (⟨#[47]⟩ : ByteArray) ++ D2).size ≤ 9223372036854775807 := by
        rw [ByteArray.size_append, ByteArray.size_append, ByteArray.size_append, ByteArray.size_append, ByteArray.size_append]; omega
      simp only [if_pos e3, if_pos e4, wx]
      exact ih1
theorem implY_loop (l : List IY) (hl : l.length ≤ 10) (hv : ∀ x ∈ l, okY x) (d : Nat) : ∀ (i : Nat), i + d = l.length → Ev (fun k => impl_yarnsText.l0 k ((l.take i).map yWord) l (l.length : Int) (i : Int)) (J 32 (l.map yWord)) := by
  induction d with
  | zero =>
    intro i hi
    have js := jY_size l hl hv
    refine Ev.step (f := fun _ => some (J 32 (l.map yWord))) (fun k => ?_) (Ev.now _)
    rw [impl_yarnsText.l0, if_neg (by omega), List.take_of_length_le (by omega), join_f 32 _ (by omega) (by rw [List.length_map]; omega)]
    rfl
  | succ d ih =>
    intro i hi
    have hil : i < l.length := by omega
    have ih1 := ih (i + 1) (by omega)
    clear ih
    have hx := hv l[i] (List.getElem_mem hil)
    have hj := joined_ev 47 [l[i].f0, l[i].f1, l[i].f2] (by simp) (fun x hm => by
      obtain ⟨h1, h2, h3⟩ := hx
      simp only [List.mem_cons, List.not_mem_nil, or_false] at hm
      rcases hm with rfl | rfl | rfl <;> omega)
    rw [yWord_join _ hx] at hj
    obtain ⟨h1, h2, h3⟩ := hx
    have w0 : wrap64 (l[i].f0) = l[i].f0 := wr (by omega) (by omega)
    have w1 : wrap64 (l[i].f1) = l[i].f1 := wr (by omega) (by omega)
    have w2 : wrap64 (l[i].f2) = l[i].f2 := wr (by omega) (by omega)
    have q1 : (i : Int) < (l.length : Int) := by omega
    have q2 : (0 : Int) ≤ (i : Int) := by omega
    have wx : wrap64 ((i : Int) + 1) = ((i + 1 : Nat) : Int) := by rw [wr (by omega) (by omega)]; omega
    have ht : (l.take (i + 1)).map yWord = (l.take i).map yWord ++ [yWord l[i]] := by rw [List.take_succ_eq_append_getElem hil, List.map_append]; rfl
    have hlen : ((l.take i).map yWord).length < 8796093022208 := by
      rw [List.length_map]
      exact Nat.lt_of_le_of_lt (List.length_take_le _ _) (Nat.lt_of_lt_of_le hil (Nat.le_trans hl (by decide)))
    rw [ht] at ih1
    clear hl hi h1 h2 h3
    refine Ev.step (fun k => by rw [impl_yarnsText.l0, if_pos q1, if_pos q2, if_pos q1, rdIY hil, w0, w1, w2]) (Ev.bind hj ?_)
    simp only [if_pos hlen, wx]
    exact ih1
theorem okY_of {l : List IY} (hw : ∀ x ∈ l, (-32768 ≤ x.f0 ∧ x.f0 ≤ 32767) ∧ (-32768 ≤ x.f1 ∧ x.f1 ≤ 32767) ∧ (-32768 ≤ x.f2 ∧ x.f2 ≤ 32767)) (hv : ∀ x ∈ l, vY x = true) : ∀ x ∈ l, okY x := by
  intro x hx
  have h1 := hw x hx
  have h2 := hv x hx
  unfold vY at h2
  have z := of_decide_eq_true h2
  rw [wr (n := x.f0) (by omega) (by omega), wr (n := x.f1) (by omega) (by omega), wr (n := x.f2) (by omega) (by omega)] at z
  exact z
theorem YarnsText_same (l : List IY) (hl : (l.length : Int) ≤ 1048576) (hw : ∀ x ∈ l, (-32768 ≤ x.f0 ∧ x.f0 ≤ 32767) ∧ (-32768 ≤ x.f1 ∧ x.f1 ≤ 32767) ∧ (-32768 ≤ x.f2 ∧ x.f2 ≤ 32767)) :
    ∃ r, Ev (fun k => spec_YarnsText.f k l) r ∧ Ev (fun k => impl_YarnsText.f k l) r ∧ ((l.length ≤ 10 ∧ ∀ x ∈ l, vY x = true) → r = J 32 (l.map yWord)) := by
  have e1 := spec_yCode l true (by omega)
  unfold spec_YarnsText.f impl_YarnsText.f
  simp only [impl_yCode l true (by omega), Option.bind_some]
  by_cases h : yCode l true = 0
  · obtain ⟨hv, _, hlen⟩ := yCode_zero h
    have ho := okY_of hw hv
    have hl10 : l.length ≤ 10 := by omega
    rw [h] at e1
    refine ⟨J 32 (l.map yWord), Ev.bind e1 ?_, ?_, fun _ => rfl⟩
    · simp only [if_true]
      refine Ev.bind ?_ (Ev.now _)
      unfold spec_l03Text.f
      exact specY_loop l hl10 ho l.length 0 (by omega)
    · simp only [h, if_true]
      refine Ev.bind ?_ (Ev.now _)
      unfold impl_yarnsText.f
      exact implY_loop l hl10 ho l.length 0 (by omega)
  · refine ⟨(⟨#[]⟩ : ByteArray), Ev.bind e1 ?_, ?_, fun q => absurd ?_ h⟩
    · simp only [if_neg h]; exact Ev.now _
    · simp only [if_neg h]; exact Ev.now _
    · unfold yCode
      rw [if_pos (List.all_eq_true.2 q.2), if_pos rfl, if_neg (by omega)]
theorem wfp16 {a : Int} (h : (Lit.int .i16 a).wf = true) : -32768 ≤ a ∧ a ≤ 32767 := by
  simp only [Lit.wf, IntKind.min, IntKind.max, IntKind.signed, IntKind.bits, Bool.and_eq_true, decide_eq_true_eq, if_true] at h
  omega
theorem FnExactYarnsText : laws_FnExactYarnsText.Pure := by
  intro l ⟨hl, hs⟩
  refine Ev.rounds ?_
  unfold laws_FnExactYarnsText.f
  simp only [szYarn_f l 1048576 (by omega) (by omega), Option.bind_some]
  by_cases h : (l.length : Int) ≤ 1048576
  · have hn : ¬ (1048576 - (l.length : Int) < 0) := by omega
    simp only [if_pos h, if_neg hn]
    have ts := toYarnS_ev l (by omega) (by omega)
    have hb : ∀ x ∈ l.map toY, (-32768 ≤ x.f0 ∧ x.f0 ≤ 32767) ∧ (-32768 ≤ x.f1 ∧ x.f1 ≤ 32767) ∧ (-32768 ≤ x.f2 ∧ x.f2 ≤ 32767) := by
      intro x hx
      obtain ⟨y, hy, rfl⟩ := List.mem_map.1 hx
      exact ⟨wfp16 (hs y hy).1, wfp16 (hs y hy).2.1, wfp16 (hs y hy).2.2⟩
    obtain ⟨r, f1, f2, _⟩ := YarnsText_same (l.map toY) (by simpa using h) hb
    refine Ev.bind ts (Ev.bind f1 (Ev.bind ts (Ev.bind f2 ?_)))
    simp only [if_true]
    refine Ev.bind ts (Ev.bind (eqYarnS_self (l.map toY) (by simp; omega)) ?_)
    simp only [if_true]; exact Ev.now _
  · simp only [if_neg h, show ((-1 : Int) < 0) from by omega, if_true]; exact Ev.now _
end Go.Proofs.YtddhebmnhcilfaaDoor.Pure
