/- The statement of FnExactStrandsText, over numbers, texts and lists alone; no conditions. -/
import Derived.Test.YtddhebmnhcilfaaDoorXFnExactStrandsTextx5
namespace Go.Proofs.YtddhebmnhcilfaaDoor.Pure
open Go.RowKit Go.Proofs.YtddhebmnhcilfaaDoor.XFnExactStrandsText Go.Proofs.YtddhebmnhcilfaaDoorW.PrintWords Go.Proofs.YtddhebmnhcilfaaDoorW.PrintLast
set_option linter.unusedVariables false
set_option linter.unusedSimpArgs false
theorem wr {n : Int} (h0 : -9223372036854775808 ≤ n) (h1 : n ≤ 9223372036854775807) : wrap64 n = n := by
  unfold wrap64; omega
theorem wf64 {a : Int} (h : (Lit.int .i64 a).wf = true) : -9223372036854775808 ≤ a ∧ a ≤ 9223372036854775807 := by
  simp only [Lit.wf, IntKind.min, IntKind.max, IntKind.signed, IntKind.bits, Bool.and_eq_true, decide_eq_true_eq, if_true] at h
  omega
theorem ev_id {α : Type} {g : Nat → Option α} {r s : α} (h : Ev g r) (e : r = s) : Ev g s := e ▸ h
theorem ev_const {α : Type} {o : Option α} {r : α} (h : o = some r) : Ev (fun _ => o) r := ⟨0, fun _ _ => h⟩
theorem ev_fun {α : Type} {g : Nat → Option α} {r s : α} (h : Ev g r) (k : Ev g s) : r = s := by
  obtain ⟨a, h⟩ := h
  obtain ⟨b, k⟩ := k
  have x := h (max a b) (by omega)
  have y := k (max a b) (by omega)
  rw [x] at y; exact Option.some.inj y
/-- Both come to one answer. -/
def Same {α : Type} (g f : Nat → Option α) : Prop := ∃ r, Ev g r ∧ Ev f r
theorem Same.step {α : Type} {g f g' f' : Nat → Option α} (hg : ∀ k, g (k + 1) = g' k) (hf : ∀ k, f (k + 1) = f' k) (h : Same g' f') : Same g f := by
  obtain ⟨r, a, b⟩ := h
  exact ⟨r, Ev.step hg a, Ev.step hf b⟩
theorem Same.left {α : Type} {g f g' : Nat → Option α} (hg : ∀ k, g (k + 1) = g' k) (h : Same g' f) : Same g f := by
  obtain ⟨r, a, b⟩ := h
  exact ⟨r, Ev.step hg a, b⟩
theorem Same.right {α : Type} {g f f' : Nat → Option α} (hf : ∀ k, f (k + 1) = f' k) (h : Same g f') : Same g f := by
  obtain ⟨r, a, b⟩ := h
  exact ⟨r, a, Ev.step hf b⟩
theorem Same.now {α : Type} (r : α) : Same (fun _ => some r) (fun _ => some r) := ⟨r, Ev.now r, Ev.now r⟩
theorem if_dec {α : Type} {p : Prop} [Decidable p] (a b : α) : (if decide p = true then a else b) = if p then a else b := by
  by_cases h : p <;> simp [h]
theorem w00 : wrap64 0 = 0 := wr (by omega) (by omega)
theorem l00In_f (a b c : Int) : spec_l00In.f a b c = some (decide (b ≤ a ∧ a ≤ c)) := by
  unfold spec_l00In.f
  by_cases h : b ≤ a <;> simp [h]
theorem within_f (a b c : Int) : impl_within.f a b c = some (decide (b ≤ a ∧ a ≤ c)) := by
  unfold impl_within.f
  by_cases h : b ≤ a <;> simp [h]
theorem allO_some {α : Type} (p : α → Bool) : ∀ l : List α, allO (fun x => some (p x)) l = some (l.all p)
  | [] => rfl
  | x :: l => by
    simp only [allO, Option.bind_some, List.all_cons, allO_some p l]
    cases p x <;> simp
theorem allG_some {α : Type} (p : α → Bool) (l : List α) (h : (l.length : Int) ≤ 4611686018427387904) : allG l (fun x => some (p x)) = some (l.all p) := by
  unfold allG; rw [if_pos h, allO_some]
abbrev LS := S63
abbrev IS := S49
def toS (x : LS) : IS := ⟨x.f0, x.f1⟩
theorem rdIS {l : List IS} {i : Nat} (h : i < l.length) : rd_T49 l (i : Int) = l[i] := by
  unfold rd_T49; simp [List.getD, h]
theorem rdLS {l : List LS} {i : Nat} (h : i < l.length) : rd_T63 l (i : Int) = l[i] := by
  unfold rd_T63; simp [List.getD, h]
theorem szStrand_f (l : List LS) (n : Int) (h0 : (l.length : Int) ≤ 140737488351232) (hn : 0 ≤ n ∧ n ≤ 1048576) : laws_szStrandS.f l n = some (if (l.length : Int) ≤ n then n - l.length else -1) := by
  unfold laws_szStrandS.f
  rw [wr (by omega) (by omega)]
  by_cases h : (l.length : Int) ≤ n
  · rw [if_neg (by omega), if_pos h]
  · rw [if_pos (by omega), if_neg h]
theorem toStrandS_loop (l : List LS) (hl : (l.length : Int) ≤ 140737488351232) (d : Nat) : ∀ (out rest : List IS) (i : Nat), out.length = i → rest.length = d → i + d = l.length →
    Ev (fun k => laws_toStrandS.l0 k l (out ++ rest) (i : Int)) (out ++ (l.drop i).map toS) := by
  induction d with
  | zero =>
    intro out rest i ho hr hi
    refine Ev.step (f := fun _ => some (out ++ (l.drop i).map toS)) (fun k => ?_) (Ev.now _)
    simp only [laws_toStrandS.l0]
    rw [if_neg (by omega), List.drop_eq_nil_of_le (by omega), List.length_eq_zero_iff.1 hr]; simp
  | succ d ih =>
    intro out rest i ho hr hi
    have hil : i < l.length := by omega
    obtain ⟨y, rest, rfl⟩ : ∃ y r, rest = y :: r := by cases rest with | nil => simp at hr | cons y r => exact ⟨y, r, rfl⟩
    refine Ev.step (fun k => ?_) (ev_id (ih (out ++ [toS l[i]]) rest (i + 1) (by simp; omega) (by simpa using hr) (by omega)) ?_)
    · simp only [laws_toStrandS.l0, laws_toStrand.f, Option.bind_some]
      rw [if_pos (by omega), if_pos (by omega), if_pos (by simp; omega), rdLS hil, wr (n := (i : Int) + 1) (by omega) (by omega)]
      have : (out ++ y :: rest).set (i : Int).toNat (⟨l[i].f0, l[i].f1⟩ : IS) = out ++ [toS l[i]] ++ rest := by
        rw [Int.toNat_natCast, List.set_append_right _ _ (by omega), ho]; simp [toS]
      rw [this]; rfl
    · rw [List.drop_eq_getElem_cons hil]; simp only [List.map_cons, List.append_assoc, List.cons_append, List.nil_append]
theorem toStrandS_ev (l : List LS) (hl : (l.length : Int) ≤ 140737488351232) (hl2 : l.length ≤ 46912496118442) : Ev (fun k => laws_toStrandS.f k l) (l.map toS) := by
  unfold laws_toStrandS.f
  have h0 : (0 : Int) ≤ (l.length : Int) := by omega
  have h1 : ((l.length : Int) : Int).toNat ≤ 70368744177664 := by omega
  simp only [if_pos h0, if_pos h1]
  have := toStrandS_loop l hl l.length [] (List.replicate l.length z49) 0 rfl (by simp) (by omega)
  simpa using this
theorem eqStrandS_loop (l : List IS) (hl : (l.length : Int) ≤ 140737488351232) (d : Nat) : ∀ (i : Nat), i + d = l.length → Ev (fun k => laws_eqStrandS.l0 k l l (i : Int)) true := by
  induction d with
  | zero =>
    intro i hi
    refine Ev.step (f := fun _ => some true) (fun k => ?_) (Ev.now _)
    simp only [laws_eqStrandS.l0]; rw [if_neg (by omega)]
  | succ d ih =>
    intro i hi
    refine Ev.step (fun k => ?_) (ih (i + 1) (by omega))
    simp only [laws_eqStrandS.l0, laws_eqStrand.f, if_true, Option.bind_some]
    rw [if_pos (by omega), if_pos (by omega), if_pos (by omega), wr (n := (i : Int) + 1) (by omega) (by omega)]; rfl
theorem eqStrandS_self (l : List IS) (hl : (l.length : Int) ≤ 140737488351232) : Ev (fun k => laws_eqStrandS.f k l l) true := by
  unfold laws_eqStrandS.f
  simp only [if_true]
  exact eqStrandS_loop l hl l.length 0 (by omega)
/-- What a valid strand is. -/
def vS (x : IS) : Bool := decide ((1 ≤ wrap64 x.f0 ∧ wrap64 x.f0 ≤ 2000) ∧ x.f1 < 6)
theorem vS_loop (l : List IS) (hl : (l.length : Int) ≤ 140737488351232) (d : Nat) : ∀ (i : Nat), i + d = l.length → Ev (fun k => spec_l04Strands.l0 k l (i : Int)) ((l.drop i).all vS) := by
  induction d with
  | zero =>
    intro i hi
    refine Ev.step (f := fun _ => some true) (fun k => ?_) (ev_id (Ev.now _) ?_)
    · simp only [spec_l04Strands.l0]; rw [if_neg (by omega)]
    · rw [List.drop_eq_nil_of_le (by omega)]; rfl
  | succ d ih =>
    intro i hi
    have hil : i < l.length := by omega
    rw [List.drop_eq_getElem_cons hil, List.all_cons]
    have hv : vS l[i] = decide ((1 ≤ wrap64 l[i].f0 ∧ wrap64 l[i].f0 ≤ 2000) ∧ l[i].f1 < 6) := rfl
    by_cases h1 : 1 ≤ wrap64 l[i].f0 ∧ wrap64 l[i].f0 ≤ 2000
    · by_cases h2 : l[i].f1 < 6
      · refine Ev.step (fun k => ?_) (ev_id (ih (i + 1) (by omega)) (by rw [hv, decide_eq_true ⟨h1, h2⟩, Bool.true_and]))
        simp only [spec_l04Strands.l0, rdIS hil, l00In_f, Option.bind_some, if_dec]
        rw [if_pos (by omega), if_pos (by omega), if_pos h1, if_neg (by omega), wr (n := (i : Int) + 1) (by omega) (by omega)]; rfl
      · refine Ev.step (f := fun _ => some false) (fun k => ?_) (ev_id (Ev.now _) (by rw [hv, decide_eq_false (fun h => h2 h.2), Bool.false_and]))
        simp only [spec_l04Strands.l0, rdIS hil, l00In_f, Option.bind_some, if_dec]
        rw [if_pos (by omega), if_pos (by omega), if_pos h1, if_pos (by omega)]
    · refine Ev.step (f := fun _ => some false) (fun k => ?_) (ev_id (Ev.now _) (by rw [hv, decide_eq_false (fun h => h1 h.1), Bool.false_and]))
      simp only [spec_l04Strands.l0, rdIS hil, l00In_f, Option.bind_some, if_dec]
      rw [if_pos (by omega), if_pos (by omega), if_neg h1]
theorem vS_ev (l : List IS) (hl : (l.length : Int) ≤ 140737488351232) : Ev (fun k => spec_l04Strands.f k l) (l.all vS) := by
  unfold spec_l04Strands.f
  have := vS_loop l hl l.length 0 (by omega)
  simpa using this
theorem vS_impl (x : IS) : impl_ValidStrands_1.f x.f0 x.f1 = some (vS x) := by
  unfold impl_ValidStrands_1.f vS
  simp only [within_f, Option.bind_some, if_dec]
  by_cases h1 : 1 ≤ wrap64 x.f0 ∧ wrap64 x.f0 ≤ 2000 <;> simp [h1]
theorem validS_f (l : List IS) (hl : (l.length : Int) ≤ 140737488351232) : impl_ValidStrands.f l = some (l.all vS) := by
  unfold impl_ValidStrands.f
  have e : (fun x_ : IS => impl_ValidStrands_1.f x_.f0 x_.f1) = fun x => some (vS x) := funext vS_impl
  show (allG l _).bind _ = _
  rw [e, allG_some vS l (by omega)]; rfl
/-- A number's numeral. -/
def dec (n : Nat) : ByteArray := ⟨(Lib.decDigits n).toArray⟩
theorem ba_ext {a b : ByteArray} (h : a.data.toList = b.data.toList) : a = b := by
  cases a; cases b
  congr 1
  exact Array.toList_inj.1 h
theorem ba_app (a b : ByteArray) : (a ++ b).data.toList = a.data.toList ++ b.data.toList := by simp
theorem ba_size (a : ByteArray) : a.size = a.data.toList.length := by cases a; rfl
theorem dec_data (n : Nat) : (dec n).data.toList = Lib.decDigits n := by simp [dec]
theorem dec_size (n : Nat) (h : n ≤ 9223372036854775807) : (dec n).size ≤ 20 := by
  rw [ba_size, dec_data, Lib.decDigits_length]
  exact Lib.nDigits_le20 n (by omega)
theorem dec_step {n : Nat} (h : ¬ n < 10) : dec n = dec (n / 10) ++ dec (n % 10) := by
  apply ba_ext
  rw [ba_app, dec_data, dec_data, dec_data]
  conv => lhs; rw [Lib.decDigits, dif_neg h]
  rw [Lib.decDigits_one (show n % 10 < 10 by omega)]
theorem dec_one {n : Nat} (h : n < 10) : strOfNums [(wrap64 (48 + (Int.tmod (n : Int) 10))) % 256] = dec n := by
  apply ba_ext
  rw [dec_data, Lib.decDigits_one h]
  have e : Int.tmod (n : Int) 10 = (n : Int) := by rw [Int.tmod_eq_emod_of_nonneg (by omega)]; omega
  rw [e, wr (by omega) (by omega), show (48 + (n : Int)) % 256 = ((48 + n : Nat) : Int) by omega]
  show [UInt8.ofNat (((48 + n : Nat) : Int)).toNat] = _
  rw [Int.toNat_natCast]
theorem Decimal_ev : ∀ n : Nat, n ≤ 9223372036854775807 → Ev (fun k => spec_Decimal.f k (n : Int)) (dec n) := by
  intro n
  induction n using Nat.strongRecOn with
  | _ n ih =>
    intro hn
    by_cases h : n < 10
    · refine Ev.step (f := fun _ => some (dec n)) (fun k => ?_) (Ev.now _)
      rw [spec_Decimal.f, if_pos (by omega), dec_one h]
    · have e1 : Int.tdiv (n : Int) 10 = ((n / 10 : Nat) : Int) := by rw [Int.tdiv_eq_ediv_of_nonneg (by omega)]; omega
      have e2 : Int.tmod (n : Int) 10 = Int.tmod ((n % 10 : Nat) : Int) 10 := by rw [Int.tmod_eq_emod_of_nonneg (by omega), Int.tmod_eq_emod_of_nonneg (by omega)]; omega
      refine Ev.step (f := fun k => (spec_Decimal.f k ((n / 10 : Nat) : Int)).bind fun t => if t.size + (dec (n % 10)).size ≤ 9223372036854775807 then some (t ++ dec (n % 10)) else none) (fun k => ?_) (Ev.bind (ih (n / 10) (by omega) (by omega)) ?_)
      · rw [spec_Decimal.f, if_neg (by omega), e1, wr (n := ((n / 10 : Nat) : Int)) (by omega) (by omega), e2]
        simp only [Option.bind_some, dec_one (show n % 10 < 10 by omega)]
      · have a1 := dec_size (n / 10) (by omega)
        have a2 := dec_size (n % 10) (by omega)
        simp only [if_pos (show (dec (n / 10)).size + (dec (n % 10)).size ≤ 9223372036854775807 by omega)]
        exact ev_id (Ev.now _) (dec_step h).symm
theorem decimal_f (n : Nat) (h : n ≤ 9223372036854775807) : impl_decimal.f (n : Int) = some (dec n) := by
  unfold impl_decimal.f
  rw [if_pos (by omega), Lib.itoa_nonneg]; rfl
/-- Texts, blanks between. -/
def J (b : UInt8) (ws : List ByteArray) : ByteArray := ⟨(Lib.join (ws.map (·.data.toList)) [b]).toArray⟩
theorem joinTail_snoc (s : List UInt8) (r : List (List UInt8)) (x : List UInt8) : Lib.joinTail s (r ++ [x]) = Lib.joinTail s r ++ (s ++ x) := by simp [Lib.joinTail]
theorem J_one (b : UInt8) (w : ByteArray) : J b [w] = w := by
  apply ba_ext; simp [J, Lib.join_one]
theorem J_nil (b : UInt8) : J b [] = (⟨#[]⟩ : ByteArray) := rfl
theorem J_snoc (b : UInt8) (ws : List ByteArray) (w : ByteArray) (h : ws ≠ []) : J b (ws ++ [w]) = J b ws ++ (⟨#[b]⟩ : ByteArray) ++ w := by
  cases ws with
  | nil => exact absurd rfl h
  | cons a r =>
    apply ba_ext
    rw [ba_app, ba_app]
    simp only [J, List.cons_append, List.map_cons, List.map_append, List.map_nil, Lib.join_cons, joinTail_snoc]
    simp
theorem J_size (b : UInt8) (ws : List ByteArray) (m : Nat) (h : ∀ w ∈ ws, w.size ≤ m) : (J b ws).size ≤ (m + 1) * ws.length := by
  have : ∀ d : Nat, ∀ ws : List ByteArray, ws.length = d → (∀ w ∈ ws, w.size ≤ m) → (J b ws).size ≤ (m + 1) * ws.length := by
    intro d
    induction d with
    | zero => intro ws hl _; rw [List.length_eq_zero_iff.1 hl, J_nil]; exact Nat.zero_le _
    | succ d ih =>
      intro ws hl hw
      obtain ⟨a, x, rfl⟩ : ∃ a x, ws = a ++ [x] := ⟨ws.dropLast, ws.getLast (by intro e; rw [e] at hl; simp at hl), (List.dropLast_concat_getLast _).symm⟩
      have hx := hw x (by simp)
      by_cases ha : a = []
      · subst ha; rw [List.nil_append, J_one]; simp; omega
      · rw [J_snoc b a x ha, ByteArray.size_append, ByteArray.size_append]
        have i := ih a (by simp at hl; omega) (fun w z => hw w (by simp [z]))
        have : (⟨#[b]⟩ : ByteArray).size = 1 := rfl
        rw [List.length_append, List.length_singleton, Nat.mul_add]
        omega
  exact this ws.length ws rfl h
/-- A strand's word. -/
def sWord (x : IS) : ByteArray := dec x.f0.toNat ++ (⟨#[64]⟩ : ByteArray) ++ dec x.f1.toNat
def okS (x : IS) : Prop := 1 ≤ x.f0 ∧ x.f0 ≤ 2000 ∧ 0 ≤ x.f1 ∧ x.f1 < 6
theorem sWord_size (x : IS) (h : okS x) : (sWord x).size ≤ 41 := by
  obtain ⟨h1, h2, h3, h4⟩ := h
  have a := dec_size x.f0.toNat (by omega)
  have b := dec_size x.f1.toNat (by omega)
  have : (⟨#[64]⟩ : ByteArray).size = 1 := rfl
  unfold sWord
  rw [ByteArray.size_append, ByteArray.size_append]; omega
theorem jS_size (l : List IS) (hl : l.length ≤ 8) (hv : ∀ x ∈ l, okS x) : (J 32 (l.map sWord)).size ≤ 336 := by
  have z := J_size 32 (l.map sWord) 41 (fun w hw => by
    obtain ⟨x, hx, rfl⟩ := List.mem_map.1 hw
    exact sWord_size x (hv x hx))
  rw [List.length_map] at z
  exact Nat.le_trans z (Nat.mul_le_mul_left 42 hl)
theorem specT_loop (l : List IS) (hl : l.length ≤ 8) (hv : ∀ x ∈ l, okS x) (d : Nat) : ∀ (i : Nat), i + d = l.length → Ev (fun k => spec_l04Text.l0 k l (J 32 ((l.take i).map sWord)) (i : Int)) (J 32 (l.map sWord)) := by
  induction d with
  | zero =>
    intro i hi
    refine Ev.step (f := fun _ => some (J 32 (l.map sWord))) (fun k => ?_) (Ev.now _)
    rw [spec_l04Text.l0, if_neg (by omega), List.take_of_length_le (by omega)]
  | succ d ih =>
    intro i hi
    have hil : i < l.length := by omega
    have ih1 := ih (i + 1) (by omega)
    clear ih
    obtain ⟨h1, h2, h3, h4⟩ := hv l[i] (List.getElem_mem hil)
    have w0 : wrap64 (l[i].f0) = ((l[i].f0.toNat : Nat) : Int) := by rw [wr (by omega) (by omega)]; omega
    have w1 : wrap64 (l[i].f1) = ((l[i].f1.toNat : Nat) : Int) := by rw [wr (by omega) (by omega)]; omega
    have q1 : (i : Int) < (l.length : Int) := by omega
    have q2 : (0 : Int) ≤ (i : Int) := by omega
    have wx : wrap64 ((i : Int) + 1) = ((i + 1 : Nat) : Int) := by rw [wr (by omega) (by omega)]; omega
    have ht : (l.take (i + 1)).map sWord = (l.take i).map sWord ++ [sWord l[i]] := by rw [List.take_succ_eq_append_getElem hil, List.map_append]; rfl
    have d0 := Decimal_ev l[i].f0.toNat (by omega)
    have d1 := Decimal_ev l[i].f1.toNat (by omega)
    have a := dec_size l[i].f0.toNat (by omega)
    have b := dec_size l[i].f1.toNat (by omega)
    have js := jS_size (l.take i) (by rw [List.length_take]; omega) (fun x hx => hv x (List.mem_of_mem_take hx))
    have hne : i ≠ 0 → (l.take i).map sWord ≠ [] := fun h0 e => by
      have := congrArg List.length e
      rw [List.length_map, List.length_take, List.length_nil] at this
      omega
    have hw : sWord l[i] = dec l[i].f0.toNat ++ (⟨#[64]⟩ : ByteArray) ++ dec l[i].f1.toNat := rfl
    rw [ht] at ih1
    clear ht hl hi h1 h2 h3 h4
    generalize dec l[i].f0.toNat = D0 at d0 a hw
    generalize dec l[i].f1.toNat = D1 at d1 b hw
    generalize l[i].f0.toNat = n0 at d0 w0
    generalize l[i].f1.toNat = n1 at d1 w1
    generalize hX : (l.take i).map sWord = X at *
    have s1 : (⟨#[64]⟩ : ByteArray).size = 1 := rfl
    have s2 : (⟨#[32]⟩ : ByteArray).size = 1 := rfl
    have e0 : D0.size + 1 ≤ 9223372036854775807 := by omega
    have e64 : (D0 ++ (⟨#[64]⟩ : ByteArray)).size + D1.size ≤ 9223372036854775807 := by rw [ByteArray.size_append]; omega
    by_cases h0 : i = 0
    · subst h0
      rw [List.take_zero, List.map_nil] at hX
      subst hX
      rw [List.nil_append, J_one] at ih1
      refine Ev.step (fun k => by rw [spec_l04Text.l0, if_pos q1, if_neg (show ¬ ((0 : Nat) : Int) > 0 by decide), if_pos q2, rdIS hil, w0]) (Ev.bind d0 ?_)
      simp only [if_pos e0, rdIS hil, w1]
      refine Ev.bind d1 ?_
      have e2 : (J 32 []).size + (D0 ++ (⟨#[64]⟩ : ByteArray) ++ D1).size ≤ 9223372036854775807 := by
        rw [ByteArray.size_append, ByteArray.size_append]; omega
      simp only [if_pos e64, if_pos e2, wx]
      have e3 : J 32 [] ++ (D0 ++ (⟨#[64]⟩ : ByteArray) ++ D1) = sWord l[0] := by
        rw [hw, J_nil]
        apply ba_ext
        rw [ba_app]; rfl
      rw [e3]; exact ih1
    · have q5 : (i : Int) > 0 := Int.ofNat_lt.2 (Nat.pos_of_ne_zero h0)
      have q4 : (J 32 X).size + 1 ≤ 9223372036854775807 := by omega
      rw [J_snoc 32 X _ (hne h0), hw] at ih1
      refine Ev.step (fun k => by rw [spec_l04Text.l0, if_pos q1, if_pos q5, if_pos q4, if_pos q2, rdIS hil, w0]) (Ev.bind d0 ?_)
      simp only [if_pos e0, rdIS hil, w1]
      refine Ev.bind d1 ?_
      have e2 : (J 32 X ++ (⟨#[32]⟩ : ByteArray)).size + (D0 ++ (⟨#[64]⟩ : ByteArray) ++ D1).size ≤ 9223372036854775807 := by
        rw [ByteArray.size_append, ByteArray.size_append, ByteArray.size_append]; omega
      simp only [if_pos e64, if_pos e2, wx]
      exact ih1
theorem implT_loop (l : List IS) (hl : l.length ≤ 8) (hv : ∀ x ∈ l, okS x) (d : Nat) : ∀ (i : Nat), i + d = l.length → Ev (fun k => impl_strandsText.l0 k ((l.take i).map sWord) l (l.length : Int) (i : Int)) (J 32 (l.map sWord)) := by
  induction d with
  | zero =>
    intro i hi
    have js := jS_size l hl hv
    refine Ev.step (f := fun _ => some (J 32 (l.map sWord))) (fun k => ?_) (Ev.now _)
    rw [impl_strandsText.l0, if_neg (by omega), List.take_of_length_le (by omega)]
    unfold strings_Join.f
    have hj : (Lib.join ((l.map sWord).map (·.data.toList)) (⟨#[32]⟩ : ByteArray).data.toList).length = (J 32 (l.map sWord)).size := by
      rw [ba_size]; simp [J]
    rw [if_pos ⟨by rw [hj]; omega, by rw [List.length_map]; omega⟩]
    rfl
  | succ d ih =>
    intro i hi
    have hil : i < l.length := by omega
    have ih1 := ih (i + 1) (by omega)
    clear ih
    obtain ⟨h1, h2, h3, h4⟩ := hv l[i] (List.getElem_mem hil)
    have w0 : wrap64 (l[i].f0) = ((l[i].f0.toNat : Nat) : Int) := by rw [wr (by omega) (by omega)]; omega
    have w1 : wrap64 (l[i].f1) = ((l[i].f1.toNat : Nat) : Int) := by rw [wr (by omega) (by omega)]; omega
    have q1 : (i : Int) < (l.length : Int) := by omega
    have q2 : (0 : Int) ≤ (i : Int) := by omega
    have wx : wrap64 ((i : Int) + 1) = ((i + 1 : Nat) : Int) := by rw [wr (by omega) (by omega)]; omega
    have ht : (l.take (i + 1)).map sWord = (l.take i).map sWord ++ [sWord l[i]] := by rw [List.take_succ_eq_append_getElem hil, List.map_append]; rfl
    have hlen : ((l.take i).map sWord).length < 8796093022208 := by
      rw [List.length_map]
      exact Nat.lt_of_le_of_lt (List.length_take_le _ _) (Nat.lt_of_lt_of_le hil (Nat.le_trans hl (by decide)))
    have d0 := decimal_f l[i].f0.toNat (by omega)
    have d1 := decimal_f l[i].f1.toNat (by omega)
    have a := dec_size l[i].f0.toNat (by omega)
    have b := dec_size l[i].f1.toNat (by omega)
    have hw : sWord l[i] = dec l[i].f0.toNat ++ (⟨#[64]⟩ : ByteArray) ++ dec l[i].f1.toNat := rfl
    rw [ht, hw] at ih1
    clear ht hw hl hi h1 h2 h3 h4
    generalize dec l[i].f0.toNat = D0 at d0 a ih1
    generalize dec l[i].f1.toNat = D1 at d1 b ih1
    generalize l[i].f0.toNat = n0 at d0 w0
    generalize l[i].f1.toNat = n1 at d1 w1
    generalize (l.take i).map sWord = X at *
    have s1 : (⟨#[64]⟩ : ByteArray).size = 1 := rfl
    have e0 : D0.size + 1 ≤ 9223372036854775807 := by omega
    have e64 : (D0 ++ (⟨#[64]⟩ : ByteArray)).size + D1.size ≤ 9223372036854775807 := by rw [ByteArray.size_append]; omega
    refine Ev.step (fun k => ?_) ih1
    rw [impl_strandsText.l0, if_pos q1, if_pos q2, if_pos q1, rdIS hil, w0, w1, d0, Option.bind_some, if_pos e0, d1, Option.bind_some, if_pos e64, if_pos hlen, wx]
theorem StrandsText_same (l : List IS) (hl : (l.length : Int) ≤ 1048576) (hb : ∀ x ∈ l, (-32768 ≤ x.f0 ∧ x.f0 ≤ 32767) ∧ 0 ≤ x.f1) : ∃ r, Ev (fun k => spec_StrandsText.f k l) r ∧ Ev (fun k => impl_StrandsText.f k l) r := by
  have e1 := vS_ev l (by omega)
  unfold spec_StrandsText.f impl_StrandsText.f
  simp only [validS_f l (by omega), Option.bind_some]
  by_cases h : l.all vS = true
  · rw [h] at e1
    have hv : ∀ x ∈ l, okS x := by
      intro x hx
      have h1 := of_decide_eq_true (List.all_eq_true.1 h x hx)
      have h2 := hb x hx
      rw [wr (n := x.f0) (by omega) (by omega)] at h1
      exact ⟨h1.1.1, h1.1.2, h2.2, h1.2⟩
    by_cases h8 : (l.length : Int) > 8
    · refine ⟨(⟨#[]⟩ : ByteArray), Ev.bind e1 ?_, ?_⟩
      · simp only [if_true, if_pos h8]; exact Ev.now _
      · simp only [h, if_true, if_pos h8]; exact Ev.now _
    · refine ⟨J 32 (l.map sWord), Ev.bind e1 ?_, ?_⟩
      · simp only [if_true, if_neg h8]
        refine Ev.bind ?_ (Ev.now _)
        unfold spec_l04Text.f
        have := specT_loop l (by omega) hv l.length 0 (by omega)
        exact this
      · simp only [h, if_true, if_neg h8]
        refine Ev.bind ?_ (Ev.now _)
        unfold impl_strandsText.f
        have := implT_loop l (by omega) hv l.length 0 (by omega)
        exact this
  · have h' : l.all vS = false := Bool.eq_false_iff.2 h
    rw [h'] at e1
    refine ⟨(⟨#[]⟩ : ByteArray), Ev.bind e1 ?_, ?_⟩
    · simp only [Bool.false_eq_true, if_false]; exact Ev.now _
    · simp only [h', Bool.false_eq_true, if_false]; exact Ev.now _
theorem wfp16 {a : Int} (h : (Lit.int .i16 a).wf = true) : -32768 ≤ a ∧ a ≤ 32767 := by
  simp only [Lit.wf, IntKind.min, IntKind.max, IntKind.signed, IntKind.bits, Bool.and_eq_true, decide_eq_true_eq, if_true] at h
  omega
theorem wfp8 {a : Int} (h : (Lit.int .u8 a).wf = true) : 0 ≤ a ∧ a ≤ 255 := by
  simp only [Lit.wf, IntKind.min, IntKind.max, IntKind.signed, IntKind.bits, Bool.and_eq_true, decide_eq_true_eq, Bool.false_eq_true, if_false] at h
  omega
theorem FnExactStrandsText : laws_FnExactStrandsText.Pure := by
  intro l ⟨hl, hs⟩
  refine Ev.rounds ?_
  unfold laws_FnExactStrandsText.f
  simp only [szStrand_f l 1048576 (by omega) (by omega), Option.bind_some]
  by_cases h : (l.length : Int) ≤ 1048576
  · have hn : ¬ (1048576 - (l.length : Int) < 0) := by omega
    simp only [if_pos h, if_neg hn]
    have ts := toStrandS_ev l (by omega) (by omega)
    have hb : ∀ x ∈ l.map toS, (-32768 ≤ x.f0 ∧ x.f0 ≤ 32767) ∧ 0 ≤ x.f1 := by
      intro x hx
      obtain ⟨y, hy, rfl⟩ := List.mem_map.1 hx
      exact ⟨wfp16 (hs y hy).1, (wfp8 (hs y hy).2).1⟩
    obtain ⟨r, f1, f2⟩ := StrandsText_same (l.map toS) (by simpa using h) hb
    refine Ev.bind ts (Ev.bind f1 (Ev.bind ts (Ev.bind f2 ?_)))
    simp only [if_true]
    refine Ev.bind ts (Ev.bind (eqStrandS_self (l.map toS) (by simp; omega)) ?_)
    simp only [if_true]; exact Ev.now _
  · simp only [if_neg h, show ((-1 : Int) < 0) from by omega, if_true]; exact Ev.now _
end Go.Proofs.YtddhebmnhcilfaaDoor.Pure
