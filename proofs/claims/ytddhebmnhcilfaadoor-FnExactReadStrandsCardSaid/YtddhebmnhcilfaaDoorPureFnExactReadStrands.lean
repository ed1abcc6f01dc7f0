/- The statement of FnExactReadStrands, over numbers, texts and lists alone; no conditions. -/
import Derived.Test.YtddhebmnhcilfaaDoorXFnExactReadStrandsx5
namespace Go.Proofs.YtddhebmnhcilfaaDoor.Pure
open Go.RowKit Go.Proofs.YtddhebmnhcilfaaDoor.XFnExactReadStrands Go.Proofs.YtddhebmnhcilfaaDoorW.PrintWords Go.Proofs.YtddhebmnhcilfaaDoorW.PrintLast
set_option linter.unusedVariables false
set_option linter.unusedSimpArgs false
theorem wr {n : Int} (h0 : -9223372036854775808 ≤ n) (h1 : n ≤ 9223372036854775807) : wrap64 n = n := by
  unfold wrap64; omega
theorem wf64 {a : Int} (h : (Lit.int .i64 a).wf = true) : -9223372036854775808 ≤ a ∧ a ≤ 9223372036854775807 := by
  simp only [Lit.wf, IntKind.min, IntKind.max, IntKind.signed, IntKind.bits, Bool.and_eq_true, decide_eq_true_eq, if_true] at h
  omega
theorem ev_id {α : Type} {g : Nat → Option α} {r s : α} (h : Ev g r) (e : r = s) : Ev g s := e ▸ h
theorem ev_const {α : Type} {o : Option α} {r : α} (h : o = some r) : Ev (fun _ => o) r := ⟨0, fun _ _ => h⟩
theorem ev_fun {α : Type} {g : Nat → Option α} {r s : α} (h : Ev g r) (k : Ev g s) : r = s := by
  obtain ⟨a, h⟩ := h
  obtain ⟨b, k⟩ := k
  have x := h (max a b) (by omega)
  have y := k (max a b) (by omega)
  rw [x] at y; exact Option.some.inj y
/-- Both come to one answer. -/
def Same {α : Type} (g f : Nat → Option α) : Prop := ∃ r, Ev g r ∧ Ev f r
theorem Same.step {α : Type} {g f g' f' : Nat → Option α} (hg : ∀ k, g (k + 1) = g' k) (hf : ∀ k, f (k + 1) = f' k) (h : Same g' f') : Same g f := by
  obtain ⟨r, a, b⟩ := h
  exact ⟨r, Ev.step hg a, Ev.step hf b⟩
theorem Same.left {α : Type} {g f g' : Nat → Option α} (hg : ∀ k, g (k + 1) = g' k) (h : Same g' f) : Same g f := by
  obtain ⟨r, a, b⟩ := h
  exact ⟨r, Ev.step hg a, b⟩
theorem Same.right {α : Type} {g f f' : Nat → Option α} (hf : ∀ k, f (k + 1) = f' k) (h : Same g f') : Same g f := by
  obtain ⟨r, a, b⟩ := h
  exact ⟨r, a, Ev.step hf b⟩
theorem Same.now {α : Type} (r : α) : Same (fun _ => some r) (fun _ => some r) := ⟨r, Ev.now r, Ev.now r⟩
theorem if_dec {α : Type} {p : Prop} [Decidable p] (a b : α) : (if decide p = true then a else b) = if p then a else b := by
  by_cases h : p <;> simp [h]
theorem w00 : wrap64 0 = 0 := wr (by omega) (by omega)
theorem rd_lt {l : List Int} {i : Nat} (h : i < l.length) : rd l (i : Int) = l[i] := by
  unfold rd; simp [List.getD, h]
theorem l00In_f (a b c : Int) : spec_l00In.f a b c = some (decide (b ≤ a ∧ a ≤ c)) := by
  unfold spec_l00In.f
  by_cases h : b ≤ a <;> simp [h]
theorem within_f (a b c : Int) : impl_within.f a b c = some (decide (b ≤ a ∧ a ≤ c)) := by
  unfold impl_within.f
  by_cases h : b ≤ a <;> simp [h]
abbrev IS := S49
theorem rdIS {l : List IS} {i : Nat} (h : i < l.length) : rd_T49 l (i : Int) = l[i] := by
  unfold rd_T49; simp [List.getD, h]
/-- What a valid strand is. -/
def vS (x : IS) : Bool := decide ((1 ≤ wrap64 x.f0 ∧ wrap64 x.f0 ≤ 2000) ∧ x.f1 < 6)
theorem vS_loop (l : List IS) (hl : (l.length : Int) ≤ 140737488351232) (d : Nat) : ∀ (i : Nat), i + d = l.length → Ev (fun k => spec_l04Strands.l0 k l (i : Int)) ((l.drop i).all vS) := by
  induction d with
  | zero =>
    intro i hi
    refine Ev.step (f := fun _ => some true) (fun k => ?_) (ev_id (Ev.now _) ?_)
    · simp only [spec_l04Strands.l0]; rw [if_neg (by omega)]
    · rw [List.drop_eq_nil_of_le (by omega)]; rfl
  | succ d ih =>
    intro i hi
    have hil : i < l.length := by omega
    rw [List.drop_eq_getElem_cons hil, List.all_cons]
    have hv : vS l[i] = decide ((1 ≤ wrap64 l[i].f0 ∧ wrap64 l[i].f0 ≤ 2000) ∧ l[i].f1 < 6) := rfl
    by_cases h1 : 1 ≤ wrap64 l[i].f0 ∧ wrap64 l[i].f0 ≤ 2000
    · by_cases h2 : l[i].f1 < 6
      · refine Ev.step (fun k => ?_) (ev_id (ih (i + 1) (by omega)) (by rw [hv, decide_eq_true ⟨h1, h2⟩, Bool.true_and]))
        simp only [spec_l04Strands.l0, rdIS hil, l00In_f, Option.bind_some, if_dec]
        rw [if_pos (by omega), if_pos (by omega), if_pos h1, if_neg (by omega), wr (n := (i : Int) + 1) (by omega) (by omega)]; rfl
      · refine Ev.step (f := fun _ => some false) (fun k => ?_) (ev_id (Ev.now _) (by rw [hv, decide_eq_false (fun h => h2 h.2), Bool.false_and]))
        simp only [spec_l04Strands.l0, rdIS hil, l00In_f, Option.bind_some, if_dec]
        rw [if_pos (by omega), if_pos (by omega), if_pos h1, if_pos (by omega)]
    · refine Ev.step (f := fun _ => some false) (fun k => ?_) (ev_id (Ev.now _) (by rw [hv, decide_eq_false (fun h => h1 h.1), Bool.false_and]))
      simp only [spec_l04Strands.l0, rdIS hil, l00In_f, Option.bind_some, if_dec]
      rw [if_pos (by omega), if_pos (by omega), if_neg h1]
theorem vS_ev (l : List IS) (hl : (l.length : Int) ≤ 140737488351232) : Ev (fun k => spec_l04Strands.f k l) (l.all vS) := by
  unfold spec_l04Strands.f
  have := vS_loop l hl l.length 0 (by omega)
  simpa using this
/-- A number's numeral. -/
def dec (n : Nat) : ByteArray := ⟨(Lib.decDigits n).toArray⟩
theorem ba_ext {a b : ByteArray} (h : a.data.toList = b.data.toList) : a = b := by
  cases a; cases b
  congr 1
  exact Array.toList_inj.1 h
theorem ba_app (a b : ByteArray) : (a ++ b).data.toList = a.data.toList ++ b.data.toList := by simp
theorem ba_size (a : ByteArray) : a.size = a.data.toList.length := by cases a; rfl
theorem dec_data (n : Nat) : (dec n).data.toList = Lib.decDigits n := by simp [dec]
theorem dec_size (n : Nat) (h : n ≤ 9223372036854775807) : (dec n).size ≤ 20 := by
  rw [ba_size, dec_data, Lib.decDigits_length]
  exact Lib.nDigits_le20 n (by omega)
theorem dec_step {n : Nat} (h : ¬ n < 10) : dec n = dec (n / 10) ++ dec (n % 10) := by
  apply ba_ext
  rw [ba_app, dec_data, dec_data, dec_data]
  conv => lhs; rw [Lib.decDigits, dif_neg h]
  rw [Lib.decDigits_one (show n % 10 < 10 by omega)]
theorem dec_one {n : Nat} (h : n < 10) : strOfNums [(wrap64 (48 + (Int.tmod (n : Int) 10))) % 256] = dec n := by
  apply ba_ext
  rw [dec_data, Lib.decDigits_one h]
  have e : Int.tmod (n : Int) 10 = (n : Int) := by rw [Int.tmod_eq_emod_of_nonneg (by omega)]; omega
  rw [e, wr (by omega) (by omega), show (48 + (n : Int)) % 256 = ((48 + n : Nat) : Int) by omega]
  show [UInt8.ofNat (((48 + n : Nat) : Int)).toNat] = _
  rw [Int.toNat_natCast]
theorem decimal_f (n : Nat) (h : n ≤ 9223372036854775807) : impl_decimal.f (n : Int) = some (dec n) := by
  unfold impl_decimal.f
  rw [if_pos (by omega), Lib.itoa_nonneg]; rfl
/-- Texts, blanks between. -/
def J (b : UInt8) (ws : List ByteArray) : ByteArray := ⟨(Lib.join (ws.map (·.data.toList)) [b]).toArray⟩
theorem joinTail_snoc (s : List UInt8) (r : List (List UInt8)) (x : List UInt8) : Lib.joinTail s (r ++ [x]) = Lib.joinTail s r ++ (s ++ x) := by simp [Lib.joinTail]
theorem J_one (b : UInt8) (w : ByteArray) : J b [w] = w := by
  apply ba_ext; simp [J, Lib.join_one]
theorem J_nil (b : UInt8) : J b [] = (⟨#[]⟩ : ByteArray) := rfl
theorem J_snoc (b : UInt8) (ws : List ByteArray) (w : ByteArray) (h : ws ≠ []) : J b (ws ++ [w]) = J b ws ++ (⟨#[b]⟩ : ByteArray) ++ w := by
  cases ws with
  | nil => exact absurd rfl h
  | cons a r =>
    apply ba_ext
    rw [ba_app, ba_app]
    simp only [J, List.cons_append, List.map_cons, List.map_append, List.map_nil, Lib.join_cons, joinTail_snoc]
    simp
theorem J_size (b : UInt8) (ws : List ByteArray) (m : Nat) (h : ∀ w ∈ ws, w.size ≤ m) : (J b ws).size ≤ (m + 1) * ws.length := by
  have : ∀ d : Nat, ∀ ws : List ByteArray, ws.length = d → (∀ w ∈ ws, w.size ≤ m) → (J b ws).size ≤ (m + 1) * ws.length := by
    intro d
    induction d with
    | zero => intro ws hl _; rw [List.length_eq_zero_iff.1 hl, J_nil]; exact Nat.zero_le _
    | succ d ih =>
      intro ws hl hw
      obtain ⟨a, x, rfl⟩ : ∃ a x, ws = a ++ [x] := ⟨ws.dropLast, ws.getLast (by intro e; rw [e] at hl; simp at hl), (List.dropLast_concat_getLast _).symm⟩
      have hx := hw x (by simp)
      by_cases ha : a = []
      · subst ha; rw [List.nil_append, J_one]; simp; omega
      · rw [J_snoc b a x ha, ByteArray.size_append, ByteArray.size_append]
        have i := ih a (by simp at hl; omega) (fun w z => hw w (by simp [z]))
        have : (⟨#[b]⟩ : ByteArray).size = 1 := rfl
        rw [List.length_append, List.length_singleton, Nat.mul_add]
        omega
  exact this ws.length ws rfl h
/-- A number's numeral, with its sign. -/
def sgn (n : Int) : ByteArray := ⟨(Lib.itoa n).toArray⟩
theorem sgn_nonneg (n : Nat) : sgn (n : Int) = dec n := by
  unfold sgn dec
  rw [Lib.itoa_nonneg]
theorem sgn_neg {n : Int} (h : n < 0) : sgn n = (⟨#[45]⟩ : ByteArray) ++ dec (-n).toNat := by
  apply ba_ext
  rw [ba_app, dec_data]
  have : n.natAbs = (-n).toNat := by omega
  simp [sgn, Lib.itoa, h, this]
theorem dec_size2 (n : Nat) (h : n ≤ 9223372036854775808) : (dec n).size ≤ 20 := by
  rw [ba_size, dec_data, Lib.decDigits_length]
  exact Lib.nDigits_le20 n (by omega)
theorem sgn_size (n : Int) (h0 : -9223372036854775808 ≤ n) (h1 : n ≤ 9223372036854775807) : (sgn n).size ≤ 21 := by
  by_cases h : n < 0
  · rw [sgn_neg h, ByteArray.size_append]
    have := dec_size2 (-n).toNat (by omega)
    have e : (⟨#[45]⟩ : ByteArray).size = 1 := rfl
    omega
  · obtain ⟨m, rfl⟩ := Int.eq_ofNat_of_zero_le (show 0 ≤ n by omega)
    rw [sgn_nonneg]
    have := dec_size m (by omega)
    omega
theorem decimal_sgn (n : Int) (h0 : -9223372036854775808 ≤ n) (h1 : n ≤ 9223372036854775807) : impl_decimal.f n = some (sgn n) := by
  unfold impl_decimal.f
  rw [if_pos ⟨h0, h1⟩]; rfl
theorem join_f (b : UInt8) (ws : List ByteArray) (h : (J b ws).size ≤ 140737488355328) (hl : ws.length ≤ 140737488355328) : strings_Join.f ws (⟨#[b]⟩ : ByteArray) = some (J b ws) := by
  unfold strings_Join.f
  have hj : (Lib.join (ws.map (·.data.toList)) (⟨#[b]⟩ : ByteArray).data.toList).length = (J b ws).size := by
    rw [ba_size]; simp [J]
  rw [if_pos ⟨by rw [hj]; exact h, hl⟩]
  rfl
theorem joined_loop (b : UInt8) (ns : List Int) (hn : ns.length ≤ 1048577) (hv : ∀ x ∈ ns, -9223372036854775808 ≤ x ∧ x ≤ 9223372036854775807) (d : Nat) : ∀ (i : Nat), i + d = ns.length → Ev (fun k => impl_joined.l0 k (⟨#[b]⟩ : ByteArray) ((ns.take i).map sgn) ns (ns.length : Int) (i : Int)) (J b (ns.map sgn)) := by
  induction d with
  | zero =>
    intro i hi
    refine Ev.step (f := fun _ => some (J b (ns.map sgn))) (fun k => ?_) (Ev.now _)
    rw [impl_joined.l0, if_neg (by omega), List.take_of_length_le (by omega), join_f b _ ?_ (by rw [List.length_map]; omega)]
    · rfl
    · have z := J_size b (ns.map sgn) 21 (fun w hw => by
        obtain ⟨x, hx, rfl⟩ := List.mem_map.1 hw
        exact sgn_size x (hv x hx).1 (hv x hx).2)
      rw [List.length_map] at z
      omega
  | succ d ih =>
    intro i hi
    have hil : i < ns.length := by omega
    have ih1 := ih (i + 1) (by omega)
    clear ih
    have hx := hv ns[i] (List.getElem_mem hil)
    have ht : (ns.take (i + 1)).map sgn = (ns.take i).map sgn ++ [sgn ns[i]] := by rw [List.take_succ_eq_append_getElem hil, List.map_append]; rfl
    have hlen : ((ns.take i).map sgn).length < 8796093022208 := by
      rw [List.length_map]
      exact Nat.lt_of_le_of_lt (List.length_take_le _ _) (Nat.lt_of_lt_of_le hil (Nat.le_trans hn (by decide)))
    have wx : wrap64 ((i : Int) + 1) = ((i + 1 : Nat) : Int) := by rw [wr (by omega) (by omega)]; omega
    rw [ht] at ih1
    refine Ev.step (fun k => ?_) ih1
    rw [impl_joined.l0, if_pos (by omega), if_pos (by omega), if_pos (by omega), rd_lt hil, decimal_sgn _ (by omega) (by omega), Option.bind_some, if_pos hlen, wx]
theorem joined_ev (b : UInt8) (ns : List Int) (hn : ns.length ≤ 1048577) (hv : ∀ x ∈ ns, -9223372036854775808 ≤ x ∧ x ≤ 9223372036854775807) : Ev (fun k => impl_joined.f k ns (⟨#[b]⟩ : ByteArray)) (J b (ns.map sgn)) := by
  unfold impl_joined.f
  exact joined_loop b ns hn hv ns.length 0 (by omega)
/-- The pieces of a list between each b. -/
def pieces (b : UInt8) : List UInt8 → List (List UInt8)
  | [] => [[]]
  | c :: l => if c = b then [] :: pieces b l else (c :: (pieces b l).headD []) :: (pieces b l).tail
theorem pieces_none {b : UInt8} : ∀ {l : List UInt8}, b ∉ l → pieces b l = [l]
  | [], _ => rfl
  | c :: l, h => by
    have h1 : ¬ c = b := fun e => h (e ▸ List.mem_cons_self ..)
    have h2 := pieces_none (l := l) (fun m => h (List.mem_cons_of_mem _ m))
    simp only [pieces, if_neg h1, h2, List.headD_cons, List.tail_cons]
theorem pieces_at {b : UInt8} {q : List UInt8} : ∀ {p : List UInt8}, b ∉ p → pieces b (p ++ b :: q) = p :: pieces b q
  | [], _ => by simp [pieces]
  | c :: p, h => by
    have h1 : ¬ c = b := fun e => h (e ▸ List.mem_cons_self ..)
    have h2 := pieces_at (q := q) (p := p) (fun m => h (List.mem_cons_of_mem _ m))
    simp only [List.cons_append, pieces, if_neg h1, h2, List.headD_cons, List.tail_cons]
theorem part_of (b : UInt8) (l : List UInt8) : b ∉ l ∨ ∃ p q, l = p ++ b :: q ∧ b ∉ p := by
  by_cases h : b ∈ l
  · obtain ⟨p, q, e, hp⟩ := List.eq_append_cons_of_mem h
    exact Or.inr ⟨p, q, e, hp⟩
  · exact Or.inl h
theorem pieces_ne (b : UInt8) (l : List UInt8) : pieces b l ≠ [] := by
  cases l with
  | nil => simp [pieces]
  | cons c l => simp only [pieces]; split <;> simp
theorem pieces_free (b : UInt8) : ∀ (n : Nat) (l : List UInt8), l.length ≤ n → ∀ w ∈ pieces b l, b ∉ w := by
  intro n
  induction n with
  | zero => intro l hl w hw; rw [List.length_eq_zero_iff.1 (Nat.le_zero.1 hl)] at hw; simp [pieces] at hw; simp [hw]
  | succ n ih =>
    intro l hl w hw
    rcases part_of b l with h | ⟨p, q, rfl, hp⟩
    · rw [pieces_none h] at hw; rw [List.mem_singleton.1 hw]; exact h
    · rw [pieces_at hp] at hw
      rcases List.mem_cons.1 hw with rfl | hw
      · exact hp
      · exact ih q (by simp at hl; omega) w hw
theorem join_cons2 (b : UInt8) (p : List UInt8) (r : List (List UInt8)) (h : r ≠ []) : Lib.join (p :: r) [b] = p ++ b :: Lib.join r [b] := by
  cases r with
  | nil => exact absurd rfl h
  | cons x r => rw [Lib.join_cons, Lib.join_cons]; simp [Lib.joinTail]
theorem join_pieces (b : UInt8) : ∀ (n : Nat) (l : List UInt8), l.length ≤ n → Lib.join (pieces b l) [b] = l := by
  intro n
  induction n with
  | zero => intro l hl; rw [List.length_eq_zero_iff.1 (Nat.le_zero.1 hl)]; simp [pieces, Lib.join_one]
  | succ n ih =>
    intro l hl
    rcases part_of b l with h | ⟨p, q, rfl, hp⟩
    · rw [pieces_none h, Lib.join_one]
    · rw [pieces_at hp, join_cons2 b p _ (pieces_ne b q), ih q (by simp at hl; omega)]
theorem pieces_join (b : UInt8) : ∀ (ws : List (List UInt8)), ws ≠ [] → (∀ w ∈ ws, b ∉ w) → pieces b (Lib.join ws [b]) = ws
  | [], h, _ => absurd rfl h
  | [w], _, h => by rw [Lib.join_one, pieces_none (h w (by simp))]
  | w :: x :: r, _, h => by
    rw [join_cons2 b w (x :: r) (by simp), pieces_at (h w (by simp)), pieces_join b (x :: r) (by simp) (fun z hz => h z (List.mem_cons_of_mem _ hz))]
theorem idx_none {b : UInt8} : ∀ {l : List UInt8}, b ∉ l → Lib.index l [b] = -1
  | [], _ => rfl
  | c :: l, h => by
    have h1 : ¬ b = c := fun e => h (e ▸ List.mem_cons_self ..)
    have h2 := idx_none (l := l) (fun m => h (List.mem_cons_of_mem _ m))
    simp [Lib.index, h1, h2]
theorem idx_at {b : UInt8} {q : List UInt8} : ∀ {p : List UInt8}, b ∉ p → Lib.index (p ++ b :: q) [b] = p.length
  | [], _ => by simp [Lib.index]
  | c :: p, h => by
    have h1 : ¬ b = c := fun e => h (e ▸ List.mem_cons_self ..)
    have h2 := idx_at (q := q) (p := p) (fun m => h (List.mem_cons_of_mem _ m))
    have h3 : ((p.length : Int) == -1) = false := beq_eq_false_iff_ne.2 (by omega)
    simp [Lib.index, h1, h2, h3]
theorem splitB_pieces (b : UInt8) : ∀ (n : Nat) (s : ByteArray), s.size ≤ n → (Lib.splitB (⟨#[b]⟩ : ByteArray) 0 (Lib.countB s (⟨#[b]⟩ : ByteArray)) s).map (·.data.toList) = pieces b s.data.toList := by
  intro n
  have one : (⟨#[b]⟩ : ByteArray).size = 1 := rfl
  induction n with
  | zero =>
    intro s hs
    have e : s.data.toList = [] := by rw [← List.length_eq_zero_iff, ← ba_size]; omega
    have hi : Lib.indexB s (⟨#[b]⟩ : ByteArray) = -1 := by
      show Lib.index s.data.toList [b] = -1
      rw [e]; rfl
    rw [Lib.countB_miss s _ hi, Lib.splitB_zero]
    simp [e, pieces]
  | succ n ih =>
    intro s hs
    rcases part_of b s.data.toList with h | ⟨p, q, e, hp⟩
    · have hi : Lib.indexB s (⟨#[b]⟩ : ByteArray) = -1 := idx_none h
      rw [Lib.countB_miss s _ hi, Lib.splitB_zero, pieces_none h]
      simp
    · have hi : Lib.indexB s (⟨#[b]⟩ : ByteArray) = (p.length : Int) := by
        show Lib.index s.data.toList [b] = _
        rw [e]; exact idx_at hp
      have hlen : s.size = p.length + 1 + q.length := by rw [ba_size, e]; simp; omega
      have hq : (s.extract (p.length + 1) s.size).data.toList = q := by
        rw [Lib.extract_to_end, e, List.drop_append]
        simp
      have hp2 : (s.extract 0 (p.length + 0)).data.toList = p := by
        simp [e]
      rw [Lib.countB_hit s _ p.length (by rw [one]; omega) hi, Nat.add_comm 1, Lib.splitB_hit _ _ _ s p.length hi, one, e, pieces_at hp, List.map_cons, hp2]
      have := ih (s.extract (p.length + 1) s.size) (by rw [ba_size, hq]; omega)
      rw [this, hq]
/-- Texts out of lists of bytes. -/
def mkB (l : List UInt8) : ByteArray := ⟨l.toArray⟩
theorem mkB_data (l : List UInt8) : (mkB l).data.toList = l := by simp [mkB]
theorem mkB_eta (s : ByteArray) : mkB s.data.toList = s := ba_ext (mkB_data _)
/-- The words of a text. -/
def words (b : UInt8) (s : ByteArray) : List ByteArray := (pieces b s.data.toList).map mkB
theorem map_mkB (ws : List ByteArray) : (ws.map (·.data.toList)).map mkB = ws := by
  rw [List.map_map]
  conv => rhs; rw [← List.map_id ws]
  apply List.map_congr_left
  intro w _
  exact mkB_eta w
theorem map_data (ws : List (List UInt8)) : (ws.map mkB).map (·.data.toList) = ws := by
  rw [List.map_map]
  conv => rhs; rw [← List.map_id ws]
  apply List.map_congr_left
  intro w _
  exact mkB_data w
theorem Split_f (b : UInt8) (s : ByteArray) (h : s.size ≤ 1073741824) : strings_Split.f s (⟨#[b]⟩ : ByteArray) = some (words b s) := by
  unfold strings_Split.f
  rw [if_pos ⟨h, Nat.le_refl _⟩]
  congr 1
  have := splitB_pieces b s.size s (Nat.le_refl _)
  unfold words
  rw [← this, map_mkB]
theorem J_words (b : UInt8) (s : ByteArray) : J b (words b s) = s := by
  apply ba_ext
  unfold J words
  rw [map_data]
  simp [join_pieces b _ _ (Nat.le_refl _)]
theorem words_J (b : UInt8) (ws : List ByteArray) (h0 : ws ≠ []) (h : ∀ w ∈ ws, b ∉ w.data.toList) : words b (J b ws) = ws := by
  unfold words J
  rw [show (⟨(Lib.join (ws.map (·.data.toList)) [b]).toArray⟩ : ByteArray).data.toList = Lib.join (ws.map (·.data.toList)) [b] by simp, pieces_join b _ (by simpa using h0) (fun w hw => by
    obtain ⟨x, hx, rfl⟩ := List.mem_map.1 hw
    exact h x hx), map_mkB]
theorem words_size (b : UInt8) (s : ByteArray) : ∀ w ∈ words b s, w.size ≤ s.size := by
  intro w hw
  obtain ⟨p, hp, rfl⟩ := List.mem_map.1 hw
  rw [ba_size, mkB_data, ba_size]
  have : ∀ (n : Nat) (l : List UInt8), l.length ≤ n → ∀ p ∈ pieces b l, p.length ≤ l.length := by
    intro n
    induction n with
    | zero => intro l hl p hp; rw [List.length_eq_zero_iff.1 (Nat.le_zero.1 hl)] at hp; simp [pieces] at hp; simp [hp]
    | succ n ih =>
      intro l hl p hp
      rcases part_of b l with h | ⟨x, q, rfl, hx⟩
      · rw [pieces_none h] at hp; rw [List.mem_singleton.1 hp]; exact Nat.le_refl _
      · rw [pieces_at hx] at hp
        rcases List.mem_cons.1 hp with rfl | hp
        · simp
        · have := ih q (by simp at hl; omega) p hp; simp; omega
  exact this _ _ (Nat.le_refl _) p hp
theorem words_length (b : UInt8) (s : ByteArray) : (words b s).length ≤ s.size + 1 := by
  unfold words
  rw [List.length_map, ba_size]
  have : ∀ (n : Nat) (l : List UInt8), l.length ≤ n → (pieces b l).length ≤ l.length + 1 := by
    intro n
    induction n with
    | zero => intro l hl; rw [List.length_eq_zero_iff.1 (Nat.le_zero.1 hl)]; simp [pieces]
    | succ n ih =>
      intro l hl
      rcases part_of b l with h | ⟨x, q, rfl, hx⟩
      · rw [pieces_none h]; simp
      · rw [pieces_at hx]
        have := ih q (by simp at hl; omega); simp; omega
  exact this _ _ (Nat.le_refl _)
theorem bt_at {s : ByteArray} {i : Nat} (h : i < s.data.toList.length) : bt s (i : Int) = ((s.data.toList[i].toNat : Nat) : Int) := by
  have h' : i < s.size := by rw [ba_size]; exact h
  unfold bt
  rw [dif_pos (by simpa using h')]
  rfl
theorem ext_data (s : ByteArray) (a b : Nat) (h : b ≤ s.size) : s.extract a b = mkB ((s.data.toList.take b).drop a) := by
  apply ba_ext
  rw [mkB_data, List.drop_take]
  simp
theorem split_loop (b : UInt8) (s : ByteArray) (hs : s.size ≤ 1048576) (d : Nat) : ∀ (i a : Nat) (out : List ByteArray), i + d = s.size → a ≤ i → out.length ≤ i → b ∉ (s.data.toList.take i).drop a → Ev (fun k => spec_l01Split.l0 k s ((b.toNat : Nat) : Int) out (a : Int) (i : Int)) (out ++ (pieces b (s.data.toList.drop a)).map mkB) := by
  induction d with
  | zero =>
    intro i a out hi ha ho hb
    have hl : s.data.toList.length = i := by rw [← ba_size]; omega
    rw [List.take_of_length_le (by omega)] at hb
    refine Ev.step (f := fun _ => some (out ++ (pieces b (s.data.toList.drop a)).map mkB)) (fun k => ?_) (Ev.now _)
    rw [spec_l01Split.l0, if_neg (by omega), if_pos (by omega), if_pos (by omega), if_pos (by omega), Int.toNat_natCast, ext_data s a s.size (Nat.le_refl _), pieces_none hb, List.take_of_length_le (by rw [hl]; omega)]
    rfl
  | succ d ih =>
    intro i a out hi ha ho hb
    have hil : i < s.data.toList.length := by rw [← ba_size]; omega
    have wi : wrap64 ((i : Int) + 1) = ((i + 1 : Nat) : Int) := by rw [wr (by omega) (by omega)]; omega
    have tk : s.data.toList.take (i + 1) = s.data.toList.take i ++ [s.data.toList[i]] := by rw [List.take_succ_eq_append_getElem hil]
    by_cases hc : s.data.toList[i] = b
    · have e : s.data.toList.drop a = (s.data.toList.take i).drop a ++ b :: s.data.toList.drop (i + 1) := by
        rw [← hc, ← List.drop_eq_getElem_cons hil, ← List.drop_append_of_le_length (by rw [List.length_take]; omega), List.take_append_drop]
      have ih1 := ih (i + 1) (i + 1) (out ++ [mkB ((s.data.toList.take i).drop a)]) (by omega) (Nat.le_refl _) (by simp; omega) (by rw [List.drop_of_length_le (by rw [List.length_take]; omega)]; simp)
      rw [e, pieces_at hb, List.map_cons]
      refine Ev.step (fun k => ?_) (ev_id ih1 (by simp))
      rw [spec_l01Split.l0, if_pos (by omega), if_pos (by omega), bt_at hil, hc, if_pos rfl, if_pos (by omega), if_pos (by omega), if_pos (by omega), if_pos (by omega), Int.toNat_natCast, Int.toNat_natCast, ext_data s a i (by omega), wi]
    · have ih1 := ih (i + 1) a out (by omega) (by omega) (by omega) (by
        rw [tk, List.drop_append_of_le_length (by rw [List.length_take]; omega)]
        intro m
        rcases List.mem_append.1 m with m | m
        · exact hb m
        · exact hc (List.mem_singleton.1 m).symm)
      refine Ev.step (fun k => ?_) ih1
      have hne : ¬ ((s.data.toList[i].toNat : Nat) : Int) = ((b.toNat : Nat) : Int) := fun z => hc (UInt8.toNat_inj.1 (by omega))
      rw [spec_l01Split.l0, if_pos (by omega), if_pos (by omega), bt_at hil, if_neg hne, wi]
theorem l01Split_ev (b : UInt8) (s : ByteArray) (hs : s.size ≤ 1048576) : Ev (fun k => spec_l01Split.f k s ((b.toNat : Nat) : Int)) (words b s) := by
  unfold spec_l01Split.f
  exact split_loop b s hs s.size 0 0 [] (by omega) (Nat.le_refl _) (by simp) (by simp)
/-- What digits spell. -/
def spell (acc : Nat) (l : List UInt8) : Nat := l.foldl (fun v c => v * 10 + (c.toNat - 48)) acc
abbrev digit (c : UInt8) : Prop := 48 ≤ c.toNat ∧ c.toNat ≤ 57
theorem spell_snoc (l : List UInt8) (c : UInt8) : spell 0 (l ++ [c]) = spell 0 l * 10 + (c.toNat - 48) := by simp [spell]
theorem dd_step {u : Nat} (h : ¬ u < 10) : Lib.decDigits u = Lib.decDigits (u / 10) ++ [UInt8.ofNat (48 + u % 10)] := by
  conv => lhs; rw [Lib.decDigits, dif_neg h]
theorem ofNat_digit {n : Nat} (h : n < 10) : (UInt8.ofNat (48 + n)).toNat = 48 + n := by
  rw [UInt8.toNat_ofNat']; omega
theorem dd_digit : ∀ u : Nat, ∀ c ∈ Lib.decDigits u, digit c := by
  intro u
  induction u using Nat.strongRecOn with
  | _ u ih =>
    intro c hc
    by_cases h : u < 10
    · rw [Lib.decDigits_one h, List.mem_singleton] at hc
      subst hc
      have := ofNat_digit h
      exact ⟨by omega, by omega⟩
    · rw [dd_step h] at hc
      rcases List.mem_append.1 hc with hc | hc
      · exact ih (u / 10) (by omega) c hc
      · rw [List.mem_singleton] at hc
        subst hc
        have := ofNat_digit (show u % 10 < 10 by omega)
        exact ⟨by omega, by omega⟩
theorem spell_dd : ∀ u : Nat, spell 0 (Lib.decDigits u) = u := by
  intro u
  induction u using Nat.strongRecOn with
  | _ u ih =>
    by_cases h : u < 10
    · have := ofNat_digit h
      rw [Lib.decDigits_one h]; simp only [spell, List.foldl_cons, List.foldl_nil]; omega
    · have := ofNat_digit (show u % 10 < 10 by omega)
      rw [dd_step h, spell_snoc, ih (u / 10) (by omega)]; omega
theorem dd_ne (u : Nat) : Lib.decDigits u ≠ [] := by
  intro e
  have := Lib.nDigits_pos u
  have h2 := Lib.decDigits_length u
  rw [e] at h2
  simp at h2
  omega
theorem dd_head : ∀ u : Nat, 1 ≤ u → ∃ c r, Lib.decDigits u = c :: r ∧ c.toNat ≠ 48 := by
  intro u
  induction u using Nat.strongRecOn with
  | _ u ih =>
    intro hu
    by_cases h : u < 10
    · exact ⟨_, [], Lib.decDigits_one h, by rw [ofNat_digit h]; omega⟩
    · obtain ⟨c, r, e, hc⟩ := ih (u / 10) (by omega) (by omega)
      exact ⟨c, r ++ [UInt8.ofNat (48 + u % 10)], by rw [dd_step h, e]; rfl, hc⟩
theorem dd_spell : ∀ (n : Nat) (l : List UInt8), l.length = n + 1 → (∀ c ∈ l, digit c) → (n = 0 ∨ ∀ c, l.head? = some c → c.toNat ≠ 48) → Lib.decDigits (spell 0 l) = l := by
  intro n
  induction n with
  | zero =>
    intro l hl hd _
    obtain ⟨c, rfl⟩ := List.length_eq_one_iff.1 hl
    have := hd c (by simp)
    have e : spell 0 [c] = c.toNat - 48 := by simp [spell]
    rw [e, Lib.decDigits_one (by omega), show 48 + (c.toNat - 48) = c.toNat by omega, UInt8.ofNat_toNat]
  | succ n ih =>
    intro l hl hd hh
    obtain ⟨m, c, rfl⟩ : ∃ m c, l = m ++ [c] := ⟨l.dropLast, l.getLast (by intro e; rw [e] at hl; simp at hl), (List.dropLast_concat_getLast _).symm⟩
    have hm : m.length = n + 1 := by simp at hl; exact hl
    have hc := hd c (by simp)
    have hh2 : ∀ x, m.head? = some x → x.toNat ≠ 48 := by
      intro x hx
      rcases hh with hh | hh
      · omega
      · refine hh x ?_
        cases m with
        | nil => simp at hm
        | cons a r => exact hx
    have e := ih m hm (fun x hx => hd x (by simp [hx])) (Or.inr hh2)
    have hp : 1 ≤ spell 0 m := by
      rcases Nat.eq_zero_or_pos (spell 0 m) with z | z
      · rw [z, Lib.decDigits_one (by omega)] at e
        exact absurd rfl (hh2 (UInt8.ofNat (48 + 0)) (by rw [← e]; rfl))
      · exact z
    rw [spell_snoc, dd_step (by omega), show (spell 0 m * 10 + (c.toNat - 48)) / 10 = spell 0 m by omega, e, show 48 + (spell 0 m * 10 + (c.toNat - 48)) % 10 = c.toNat by omega, UInt8.ofNat_toNat]
theorem spell_lt : ∀ (n : Nat) (l : List UInt8), l.length ≤ n → (∀ c ∈ l, digit c) → spell 0 l < 10 ^ n := by
  intro n
  induction n with
  | zero => intro l hl _; rw [List.length_eq_zero_iff.1 (Nat.le_zero.1 hl)]; decide
  | succ n ih =>
    intro l hl hd
    by_cases h0 : l = []
    · subst h0; exact Nat.pow_pos (by decide)
    · obtain ⟨m, c, rfl⟩ : ∃ m c, l = m ++ [c] := ⟨l.dropLast, l.getLast h0, (List.dropLast_concat_getLast _).symm⟩
      have := ih m (by simp at hl; omega) (fun x hx => hd x (by simp [hx]))
      have hc := hd c (by simp)
      rw [spell_snoc, Nat.pow_succ]
      omega
theorem nD_le : ∀ (k u : Nat), u < 10 ^ (k + 1) → Lib.nDigits u ≤ k + 1 := by
  intro k
  induction k with
  | zero => intro u h; rw [Lib.nDigits_small (by simpa using h)]; omega
  | succ k ih =>
    intro u h
    by_cases h1 : u < 10
    · rw [Lib.nDigits_small h1]; omega
    · rw [Lib.nDigits_big h1]
      rw [Nat.pow_succ] at h
      have := ih (u / 10) (by omega)
      omega
theorem dec_small {n : Nat} (h : n ≤ 999999999) : (dec n).size ≤ 9 := by
  rw [ba_size, dec_data, Lib.decDigits_length]
  exact nD_le 8 n (Nat.lt_of_le_of_lt h (by decide))
theorem dec_inj {a b : Nat} (h : dec a = dec b) : a = b := by
  rw [← spell_dd a, ← spell_dd b, ← dec_data, ← dec_data, h]
theorem num_loop (s : ByteArray) (hs : s.data.toList.length ≤ 9) (d : Nat) : ∀ i : Nat, i + d = s.data.toList.length → (∀ c ∈ s.data.toList.take i, digit c) → ∃ r : Int × Bool, Ev (fun k => spec_l01Number.l0 k s ((spell 0 (s.data.toList.take i) : Nat) : Int) (i : Int)) r ∧ (r.2 = true → (∀ c ∈ s.data.toList, digit c) ∧ r.1 = ((spell 0 s.data.toList : Nat) : Int)) ∧ (r.2 = false → ∃ c ∈ s.data.toList, ¬ digit c) := by
  have hsz : s.size = s.data.toList.length := ba_size s
  induction d with
  | zero =>
    intro i hi hd
    rw [List.take_of_length_le (by omega)] at hd ⊢
    refine ⟨((spell 0 s.data.toList : Nat), true), Ev.step (f := fun _ => some (((spell 0 s.data.toList : Nat) : Int), true)) (fun k => ?_) (Ev.now _), fun _ => ⟨hd, rfl⟩, fun e => by cases e⟩
    rw [spec_l01Number.l0, if_neg (by omega)]
  | succ d ih =>
    intro i hi hd
    have hil : i < s.data.toList.length := by omega
    have tk : s.data.toList.take (i + 1) = s.data.toList.take i ++ [s.data.toList[i]] := by rw [List.take_succ_eq_append_getElem hil]
    have hlt : spell 0 (s.data.toList.take i) < 10 ^ 9 := spell_lt 9 _ (by rw [List.length_take]; omega) hd
    rw [show (10 : Nat) ^ 9 = 1000000000 by decide] at hlt
    generalize hv : spell 0 (s.data.toList.take i) = v at hlt ⊢
    generalize hc : (s.data.toList[i]).toNat = c
    have hcm : s.data.toList[i] ∈ s.data.toList := List.getElem_mem hil
    have wi : wrap64 ((i : Int) + 1) = ((i + 1 : Nat) : Int) := by rw [wr (by omega) (by omega)]; omega
    have bad : ¬ digit (s.data.toList[i]) → (c < 48 ∨ 57 < c) → ∃ r : Int × Bool, Ev (fun k => spec_l01Number.l0 k s (v : Int) (i : Int)) r ∧ (r.2 = true → (∀ c ∈ s.data.toList, digit c) ∧ r.1 = ((spell 0 s.data.toList : Nat) : Int)) ∧ (r.2 = false → ∃ c ∈ s.data.toList, ¬ digit c) := by
      intro hb hx
      refine ⟨(0, false), Ev.step (f := fun _ => some ((0 : Int), false)) (fun k => ?_) (Ev.now _), (fun e => by cases e), (fun _ => ⟨_, hcm, hb⟩)⟩
      rw [spec_l01Number.l0, if_pos (by omega), if_pos (by omega), bt_at hil, hc]
      by_cases h1 : c < 48
      · rw [if_pos (by omega)]
      · rw [if_neg (by omega), if_pos (by omega)]
    by_cases hg : digit (s.data.toList[i])
    · have hg2 := hg
      unfold digit at hg2
      rw [hc] at hg2
      obtain ⟨r, hr, h1, h2⟩ := ih (i + 1) (by omega) (by
        rw [tk]
        intro x hx
        rcases List.mem_append.1 hx with hx | hx
        · exact hd x hx
        · rw [List.mem_singleton.1 hx]; exact hg)
      refine ⟨r, Ev.step (fun k => ?_) hr, h1, h2⟩
      have e : spell 0 (s.data.toList.take (i + 1)) = v * 10 + (c - 48) := by rw [tk, spell_snoc, hv, hc]
      have w1 : wrap64 (10 * (v : Int)) = 10 * v := wr (by omega) (by omega)
      have w2 : wrap64 (10 * (v : Int) + ((c : Int) - 48) % 256) = ((v * 10 + (c - 48) : Nat) : Int) := by rw [wr (by omega) (by omega)]; omega
      rw [spec_l01Number.l0, if_pos (by omega), if_pos (by omega), bt_at hil, hc, if_neg (by omega), if_neg (by omega), wi, w1, w2, e]
    · refine bad hg ?_
      unfold digit at hg
      rw [hc] at hg
      omega
theorem dec_digits (n : Nat) : ∀ c ∈ (dec n).data.toList, digit c := by
  rw [dec_data]; exact dd_digit n
theorem number_ev (w : ByteArray) (hw : w.size ≤ 1048576) : ∃ r : Int × Bool, Ev (fun k => spec_l01Number.f k w) r ∧ (r.2 = true → ∃ n : Nat, n ≤ 999999999 ∧ r.1 = (n : Int) ∧ w = dec n) ∧ (r.2 = false → ∀ n : Nat, n ≤ 999999999 → w ≠ dec n) := by
  have hsz : w.size = w.data.toList.length := ba_size w
  have no : (∀ n : Nat, n ≤ 999999999 → w ≠ dec n) → (∀ k, spec_l01Number.f (k + 1) w = some (0, false)) → ∃ r : Int × Bool, Ev (fun k => spec_l01Number.f k w) r ∧ (r.2 = true → ∃ n : Nat, n ≤ 999999999 ∧ r.1 = (n : Int) ∧ w = dec n) ∧ (r.2 = false → ∀ n : Nat, n ≤ 999999999 → w ≠ dec n) := fun h e =>
    ⟨(0, false), Ev.step (f := fun _ => some ((0 : Int), false)) e (Ev.now _), (fun z => by cases z), fun _ => h⟩
  by_cases h0 : w.data.toList = []
  · refine no (fun n hn e => ?_) (fun k => ?_)
    · rw [e, dec_data] at h0; exact dd_ne n h0
    · rw [spec_l01Number.f, ByteArray.toList_eq, if_pos h0, spec_l01Number.j0, if_pos rfl]
  by_cases h9 : w.size ≤ 9
  case neg =>
    refine no (fun n hn e => ?_) (fun k => ?_)
    · have := dec_small hn
      rw [← e] at this; omega
    · rw [spec_l01Number.f, ByteArray.toList_eq, if_neg h0, if_pos (by omega), spec_l01Number.j0, if_pos rfl]
  have hpos : 0 < w.data.toList.length := List.length_pos_iff.2 h0
  have hb0 : bt w 0 = ((w.data.toList[0].toNat : Nat) : Int) := bt_at (i := 0) hpos
  by_cases hz : w.data.toList[0].toNat = 48 ∧ 1 < w.size
  · refine no (fun n hn e => ?_) (fun k => ?_)
    · rcases Nat.eq_zero_or_pos n with z | z
      · subst e
        have : (dec n).size = 1 := by rw [ba_size, dec_data, z, Lib.decDigits_one (by omega)]; rfl
        omega
      · subst e
        obtain ⟨c, r, e, hc⟩ := dd_head n z
        have : (dec n).data.toList[0] = c := by
          have e2 : (dec n).data.toList = c :: r := by rw [dec_data, e]
          simp [e2]
        rw [this] at hz
        exact hc hz.1
    · rw [spec_l01Number.f, ByteArray.toList_eq, if_neg h0, if_neg (by omega), if_pos (by omega), hb0, if_pos (by omega), decide_eq_true (show (w.size : Int) > 1 by omega), spec_l01Number.j0, if_pos rfl]
  · obtain ⟨r, hr, h1, h2⟩ := num_loop w (by omega) w.data.toList.length 0 (by omega) (by simp)
    refine ⟨r, Ev.step (fun k => ?_) hr, fun e => ?_, fun e n hn z => ?_⟩
    · have st : spec_l01Number.f (k + 1) w = spec_l01Number.j0 (k + 1) w false := by
        rw [spec_l01Number.f, ByteArray.toList_eq, if_neg h0, if_neg (by omega), if_pos (by omega), hb0]
        by_cases h1 : w.data.toList[0].toNat = 48
        · rw [if_pos (by omega), decide_eq_false (show ¬ (w.size : Int) > 1 by omega)]
        · rw [if_neg (by omega)]
      rw [st, spec_l01Number.j0, if_neg (by simp)]
      rfl
    · obtain ⟨hd, e1⟩ := h1 e
      have hlt := spell_lt 9 w.data.toList (by omega) hd
      rw [show (10 : Nat) ^ 9 = 1000000000 by decide] at hlt
      refine ⟨spell 0 w.data.toList, by omega, e1, ba_ext ?_⟩
      rw [dec_data]
      refine (dd_spell (w.data.toList.length - 1) w.data.toList (by omega) hd ?_).symm
      by_cases h1 : w.data.toList.length = 1
      · exact Or.inl (by omega)
      · refine Or.inr (fun c hc e2 => hz ⟨?_, by omega⟩)
        rw [List.head?_eq_getElem?, List.getElem?_eq_getElem hpos] at hc
        rw [Option.some.inj hc]; exact e2
    · obtain ⟨c, hc, hn2⟩ := h2 e
      rw [z] at hc
      exact hn2 (dec_digits n c hc)
theorem spell_le (l : List UInt8) : ∀ acc : Nat, acc ≤ spell acc l := by
  induction l with
  | nil => intro acc; exact Nat.le_refl _
  | cons c r ih =>
    intro acc
    have := ih (acc * 10 + (c.toNat - 48))
    show acc ≤ spell (acc * 10 + (c.toNat - 48)) r
    omega
theorem uintM_digits (l : List UInt8) : ∀ acc : Nat, (∀ c ∈ l, digit c) → spell acc l ≤ 999999999 → Lib.parseUintM (2 ^ 64 - 1) acc l = .ok (spell acc l) := by
  induction l with
  | nil => intro acc _ _; rfl
  | cons c r ih =>
    intro acc hd hs
    have hc := hd c (by simp)
    have hs2 : spell (acc * 10 + (c.toNat - 48)) r ≤ 999999999 := hs
    have hle := spell_le r (acc * 10 + (c.toNat - 48))
    have e64 : (2 : Nat) ^ 64 - 1 = 18446744073709551615 := by decide
    have := ih (acc * 10 + (c.toNat - 48)) (fun x hx => hd x (by simp [hx])) hs2
    rw [e64] at this ⊢
    simp only [Lib.parseUintM]
    rw [if_pos hc, if_neg (by omega), if_neg (by omega), this]
    rfl
theorem small_sgn (n : Int) (h0 : -999999999 ≤ n) (h1 : n ≤ 999999999) : impl_small.f (sgn n) 64 = some (n, true) := by
  have e63 : (2 : Nat) ^ (64 - 1) = 9223372036854775808 := by decide
  have hu : ∀ u : Nat, u ≤ 999999999 → Lib.parseUintB 64 (Lib.decDigits u) = .ok u := by
    intro u hu
    have := uintM_digits (Lib.decDigits u) 0 (dd_digit u) (by rw [spell_dd]; exact hu)
    rw [spell_dd] at this
    unfold Lib.parseUintB
    rw [if_neg (dd_ne u)]; exact this
  have hp : Lib.parseIntB 64 (sgn n).data.toList = .ok n := by
    by_cases h : n < 0
    · have e : (sgn n).data.toList = 45 :: Lib.decDigits (-n).toNat := by
        rw [sgn_neg h, ba_app, dec_data]; rfl
      rw [e, Lib.parseIntB_minus, hu _ (by omega), e63]
      simp only [Lib.signedC]
      rw [if_neg (by omega)]
      congr 1; omega
    · obtain ⟨m, rfl⟩ := Int.eq_ofNat_of_zero_le (show 0 ≤ n by omega)
      have e : (sgn (m : Int)).data.toList = Lib.decDigits m := by rw [sgn_nonneg, dec_data]
      rw [e]
      cases hd : Lib.decDigits m with
      | nil => exact absurd hd (dd_ne m)
      | cons c r =>
        have hc := dd_digit m c (by rw [hd]; simp)
        rw [Lib.parseIntB_plain 64 c r (by omega) (by omega), ← hd, hu m (by omega), e63]
        simp only [Lib.signlessC]
        rw [if_neg (by omega)]
  have hsz := sgn_size n (by omega) (by omega)
  unfold impl_small.f
  rw [if_pos ⟨rfl, Nat.le_trans hsz (by decide)⟩, hp]
theorem small_any (w : ByteArray) (hw : w.size ≤ 1048576) : ∃ r : Int × Bool, impl_small.f w 64 = some r ∧ (r.2 = true → -9223372036854775808 ≤ r.1 ∧ r.1 ≤ 9223372036854775807) := by
  have e63 : (2 : Nat) ^ (64 - 1) = 9223372036854775808 := by decide
  unfold impl_small.f
  rw [if_pos ⟨rfl, Nat.le_trans hw (by decide)⟩]
  cases h : Lib.parseIntB 64 w.data.toList with
  | ok v =>
    have := Lib.parseIntB_bounds h
    rw [e63] at this
    exact ⟨(v, true), rfl, fun _ => ⟨by omega, by omega⟩⟩
  | range => exact ⟨(Lib.intSat 64 w.data.toList, false), rfl, fun e => by cases e⟩
  | _ => exact ⟨(0, false), rfl, fun e => by cases e⟩
/-- No numeral holds the byte. -/
abbrev noNum (b : UInt8) : Prop := b.toNat ≠ 45 ∧ (b.toNat < 48 ∨ 57 < b.toNat)
theorem sgn_free {b : UInt8} (hb : noNum b) (n : Int) : b ∉ (sgn n).data.toList := by
  intro hm
  have hd : ∀ u : Nat, b ∉ Lib.decDigits u := fun u z => by
    have := dd_digit u b z
    obtain ⟨_, h2⟩ := hb
    omega
  by_cases h : n < 0
  · rw [sgn_neg h, ba_app, dec_data] at hm
    rcases List.mem_append.1 hm with z | z
    · have e : b = 45 := by simpa using z
      exact hb.1 (by rw [e]; rfl)
    · exact hd _ z
  · obtain ⟨m, rfl⟩ := Int.eq_ofNat_of_zero_le (show 0 ≤ n by omega)
    rw [sgn_nonneg, dec_data] at hm
    exact hd _ hm
theorem rdW {l : List ByteArray} {i : Nat} (h : i < l.length) : rdOf ByteArray.empty l (i : Int) = l[i] := by
  unfold rdOf; simp [List.getD, h]
theorem iSplit_loop (b : UInt8) (w : ByteArray) (hw : w.size ≤ 1048576) (d : Nat) : ∀ (i : Nat) (ns : List Int), i + d = (words b w).length → ns.length = i → (∀ x ∈ ns, -9223372036854775808 ≤ x ∧ x ≤ 9223372036854775807) → ∃ r : List Int × Bool, Ev (fun k => impl_split.l0 k w (⟨#[b]⟩ : ByteArray) ns (words b w) ((words b w).length : Int) (i : Int)) r ∧ (r.2 = true → r.1.length = (words b w).length ∧ w = J b (r.1.map sgn)) ∧ (∀ ms : List Int, (∀ m ∈ ms, -999999999 ≤ m ∧ m ≤ 999999999) → ns = ms.take i → words b w = ms.map sgn → r = (ms, true)) := by
  have hwl : (words b w).length ≤ 1048577 := by have := words_length b w; omega
  induction d with
  | zero =>
    intro i ns hi hn hv
    refine ⟨(ns, (J b (ns.map sgn)).data.toList == w.data.toList), Ev.step (f := fun k => (impl_joined.f k ns (⟨#[b]⟩ : ByteArray)).bind fun t => some (ns, (t.toList == w.toList))) (fun k => ?_) (Ev.bind (joined_ev b ns (by omega) hv) ?_), fun e => ⟨by show ns.length = _; omega, ?_⟩, fun ms hm e1 e2 => ?_⟩
    · rw [impl_split.l0, if_neg (by omega)]
    · simp only [ByteArray.toList_eq]
      exact Ev.now _
    · exact (ba_ext (beq_iff_eq.1 e)).symm
    · have hl : ms.length = i := by
        have := congrArg List.length e2
        rw [List.length_map] at this
        omega
      rw [List.take_of_length_le (by omega)] at e1
      subst e1
      rw [← e2, J_words]
      simp
  | succ d ih =>
    intro i ns hi hn hv
    have hil : i < (words b w).length := by omega
    have wi : wrap64 ((i : Int) + 1) = ((i + 1 : Nat) : Int) := by rw [wr (by omega) (by omega)]; omega
    obtain ⟨q, hq, hqb⟩ := small_any (words b w)[i] (Nat.le_trans (words_size b w _ (List.getElem_mem hil)) hw)
    have tell : ∀ ms : List Int, (∀ m ∈ ms, -999999999 ≤ m ∧ m ≤ 999999999) → words b w = ms.map sgn → ∃ h : i < ms.length, q = (ms[i], true) := by
      intro ms hm e2
      have hl : i < ms.length := by
        have := congrArg List.length e2
        rw [List.length_map] at this
        omega
      refine ⟨hl, ?_⟩
      have e3 : (words b w)[i] = sgn ms[i] := by simp [e2]
      have hb := hm _ (List.getElem_mem hl)
      rw [e3, small_sgn _ hb.1 hb.2] at hq
      exact (Option.some.inj hq).symm
    by_cases h2 : q.2 = true
    · obtain ⟨r, hr, h3, h4⟩ := ih (i + 1) (ns ++ [q.1]) (by omega) (by simp [hn]) (fun x hx => by
        rcases List.mem_append.1 hx with hx | hx
        · exact hv x hx
        · rw [List.mem_singleton.1 hx]; exact hqb h2)
      refine ⟨r, Ev.step (fun k => ?_) hr, h3, fun ms hm e1 e2 => h4 ms hm ?_ e2⟩
      · rw [impl_split.l0, if_pos (by omega), if_pos (by omega), if_pos (by omega), rdW hil, hq, Option.bind_some, if_pos h2, if_pos (by omega), wi]
      · obtain ⟨hl, e⟩ := tell ms hm e2
        rw [List.take_succ_eq_append_getElem hl, e1, e]
    · refine ⟨([], false), Ev.step (f := fun _ => some (([] : List Int), false)) (fun k => ?_) (Ev.now _), (fun e => by cases e), fun ms hm e1 e2 => ?_⟩
      · rw [impl_split.l0, if_pos (by omega), if_pos (by omega), if_pos (by omega), rdW hil, hq, Option.bind_some, if_neg h2]
      · obtain ⟨hl, e⟩ := tell ms hm e2
        rw [e] at h2
        exact absurd rfl h2
theorem iSplit_ev (b : UInt8) (hb : noNum b) (w : ByteArray) (hw : w.size ≤ 1048576) : ∃ r : List Int × Bool, Ev (fun k => impl_split.f k w (⟨#[b]⟩ : ByteArray)) r ∧ (r.2 = true → words b w = r.1.map sgn) ∧ (∀ ms : List Int, (∀ m ∈ ms, -999999999 ≤ m ∧ m ≤ 999999999) → words b w = ms.map sgn → r = (ms, true)) := by
  obtain ⟨r, hr, h1, h2⟩ := iSplit_loop b w hw (words b w).length 0 [] (by omega) rfl (fun x hx => absurd hx (by simp))
  refine ⟨r, ?_, fun e => ?_, fun ms hm e => h2 ms hm (by simp) e⟩
  · unfold impl_split.f
    rw [Split_f b w (by omega)]
    exact hr
  · obtain ⟨hl, hj⟩ := h1 e
    have hne : r.1.map sgn ≠ [] := by
      intro z
      have z2 : r.1 = [] := by simpa using z
      rw [z2] at hl
      have : words b w ≠ [] := by unfold words; simpa using pieces_ne b w.data.toList
      exact this (List.length_eq_zero_iff.1 hl.symm)
    rw [hj, words_J b _ hne (fun x hx => by
      obtain ⟨n, _, rfl⟩ := List.mem_map.1 hx
      exact sgn_free hb n)]
theorem eqStrandS_loop (l : List IS) (hl : (l.length : Int) ≤ 140737488351232) (d : Nat) : ∀ (i : Nat), i + d = l.length → Ev (fun k => laws_eqStrandS.l0 k l l (i : Int)) true := by
  induction d with
  | zero =>
    intro i hi
    refine Ev.step (f := fun _ => some true) (fun k => ?_) (Ev.now _)
    simp only [laws_eqStrandS.l0]; rw [if_neg (by omega)]
  | succ d ih =>
    intro i hi
    refine Ev.step (fun k => ?_) (ih (i + 1) (by omega))
    simp only [laws_eqStrandS.l0, laws_eqStrand.f, if_true, Option.bind_some]
    rw [if_pos (by omega), if_pos (by omega), if_pos (by omega), wr (n := (i : Int) + 1) (by omega) (by omega)]; rfl
theorem eqStrandS_self (l : List IS) (hl : (l.length : Int) ≤ 140737488351232) : Ev (fun k => laws_eqStrandS.f k l l) true := by
  unfold laws_eqStrandS.f
  simp only [if_true]
  exact eqStrandS_loop l hl l.length 0 (by omega)
/-- The marks that are laid. -/
def marksS : Nat → Int → List IS
  | 0, _ => []
  | d + 1, m => ⟨IntKind.i16.wrap m, (m + 1) % 256⟩ :: marksS d (m + 2)
theorem marksS_length : ∀ (d : Nat) (m : Int), (marksS d m).length = d
  | 0, _ => rfl
  | d + 1, m => by rw [marksS, List.length_cons, marksS_length d]
theorem markS_loop (d : Nat) : ∀ (a : List IS) (m : Int) (i : Nat), i + d = a.length → (a.length : Int) ≤ 1073741824 → 0 ≤ m → m + 2 * d ≤ 4611686018427387904 → Ev (fun k => laws_markStrandS.l0 k a m (i : Int)) (m + 2 * d, a.take i ++ marksS d m) := by
  induction d with
  | zero =>
    intro a m i hi hn h0 h1
    refine Ev.step (f := fun _ => some (m, a)) (fun k => ?_) (ev_id (Ev.now _) ?_)
    · simp only [laws_markStrandS.l0]
      rw [if_neg (by omega)]
    · rw [List.take_of_length_le (by omega), marksS, List.append_nil]; simp
  | succ d ih =>
    intro a m i hi hn h0 h1
    have hil : i < a.length := by omega
    have w1 : wrap64 (m + 1) = m + 1 := wr (by omega) (by omega)
    have w2 : wrap64 (m + 1 + 1) = m + 2 := by rw [wr (by omega) (by omega)]; omega
    have w3 : wrap64 ((i : Int) + 1) = ((i + 1 : Nat) : Int) := by rw [wr (by omega) (by omega)]; omega
    have e1 : (rd_T49 (a.set i (⟨IntKind.i16.wrap m, (rd_T49 a i).f1⟩ : IS)) i).f0 = IntKind.i16.wrap m := by
      rw [rdIS (by simpa using hil)]; simp
    have h := ih ((a.set i (⟨IntKind.i16.wrap m, (rd_T49 a i).f1⟩ : IS)).set i (⟨IntKind.i16.wrap m, (m + 1) % 256⟩ : IS)) (m + 2) (i + 1) (by simp; omega) (by simpa using hn) (by omega) (by omega)
    refine Ev.step (fun k => ?_) (ev_id h ?_)
    · simp only [laws_markStrandS.l0, Option.bind_some, w1, w2, w3, Int.toNat_natCast, e1]
      rw [if_pos (by omega), if_pos (by omega)]
    · rw [Prod.mk.injEq]
      refine ⟨by omega, ?_⟩
      rw [List.set_set, marksS, List.take_succ_eq_append_getElem (by simpa using hil), List.getElem_set_self, List.take_set_of_le (Nat.le_refl _)]
      simp
theorem markS_ev (a : List IS) (hn : (a.length : Int) ≤ 1073741824) : Ev (fun k => laws_markStrandS.f k a 1) (1 + 2 * (a.length : Int), marksS a.length 1) := by
  have h := markS_loop a.length a 1 0 (by omega) hn (by omega) (by omega)
  rw [List.take_zero, List.nil_append] at h
  exact h
theorem heldS_loop (d : Nat) : ∀ (r : List IS) (m : Int) (i : Nat), i + d = r.length → r.drop i = marksS d m → (r.length : Int) ≤ 1073741824 → 0 ≤ m → m + 2 * d ≤ 4611686018427387904 → Ev (fun k => laws_heldStrandS.l0 k r m (i : Int)) (m + 2 * d) := by
  induction d with
  | zero =>
    intro r m i hi he hn h0 h1
    refine Ev.step (f := fun _ => some m) (fun k => ?_) (ev_id (Ev.now _) (by omega))
    simp only [laws_heldStrandS.l0]
    rw [if_neg (by omega)]
  | succ d ih =>
    intro r m i hi he hn h0 h1
    have hil : i < r.length := by omega
    rw [List.drop_eq_getElem_cons hil, marksS, List.cons.injEq] at he
    have w1 : wrap64 (m + 1) = m + 1 := wr (by omega) (by omega)
    have w2 : wrap64 (m + 1 + 1) = m + 2 := by rw [wr (by omega) (by omega)]; omega
    have w3 : wrap64 ((i : Int) + 1) = ((i + 1 : Nat) : Int) := by rw [wr (by omega) (by omega)]; omega
    have h := ih r (m + 2) (i + 1) (by omega) he.2 hn (by omega) (by omega)
    refine Ev.step (fun k => ?_) (ev_id h (by omega))
    simp only [laws_heldStrandS.l0, rdIS hil, he.1, w1, w2, w3]
    rw [if_pos (by omega), if_pos (by omega), if_pos trivial, if_pos trivial]
theorem heldS_ev (n : Nat) (hn : (n : Int) ≤ 1073741824) : Ev (fun k => laws_heldStrandS.f k (marksS n 1) 1) (1 + 2 * (n : Int)) :=
  heldS_loop n (marksS n 1) 1 0 (by rw [marksS_length]; omega) rfl (by rw [marksS_length]; exact hn) (by omega) (by omega)
/-- The number of a numeral. -/
def decOf (w : ByteArray) : Option Nat := if w = dec (spell 0 w.data.toList) ∧ spell 0 w.data.toList ≤ 999999999 then some (spell 0 w.data.toList) else none
theorem decOf_some {w : ByteArray} {n : Nat} (h : decOf w = some n) : w = dec n ∧ n ≤ 999999999 := by
  unfold decOf at h
  split at h
  · next h1 => cases h; exact h1
  · cases h
theorem decOf_dec {n : Nat} (h : n ≤ 999999999) : decOf (dec n) = some n := by
  have e : spell 0 (dec n).data.toList = n := by rw [dec_data, spell_dd]
  unfold decOf
  rw [e, if_pos ⟨rfl, h⟩]
theorem decOf_sgn (x : Int) : decOf (sgn x) = if 0 ≤ x ∧ x ≤ 999999999 then some x.toNat else none := by
  by_cases h : 0 ≤ x
  · obtain ⟨m, rfl⟩ := Int.eq_ofNat_of_zero_le h
    rw [sgn_nonneg]
    by_cases h2 : m ≤ 999999999
    · rw [decOf_dec h2, if_pos (by omega), Int.toNat_natCast]
    · rw [if_neg (by omega)]
      cases hd : decOf (dec m) with
      | none => rfl
      | some n =>
        obtain ⟨e, hn⟩ := decOf_some hd
        have := dec_inj e
        omega
  · rw [if_neg (by omega)]
    cases hd : decOf (sgn x) with
    | none => rfl
    | some n =>
      obtain ⟨e, hn⟩ := decOf_some hd
      have h45 : (45 : UInt8) ∈ (dec n).data.toList := by rw [← e, sgn_neg (by omega), ba_app]; simp
      have := dec_digits n 45 h45
      exact absurd this (by decide)
theorem number_of (w : ByteArray) (hw : w.size ≤ 1048576) : ∃ r : Int × Bool, Ev (fun k => spec_l01Number.f k w) r ∧ (∀ n : Nat, decOf w = some n → r = ((n : Int), true)) ∧ (decOf w = none → r.2 = false) := by
  obtain ⟨r, h, h1, h2⟩ := number_ev w hw
  refine ⟨r, h, fun n e => ?_, fun e => ?_⟩
  · obtain ⟨e1, e2⟩ := decOf_some e
    by_cases hr : r.2 = true
    · obtain ⟨m, hm, e3, e4⟩ := h1 hr
      have : m = n := dec_inj (e4.symm.trans e1)
      subst this
      exact Prod.ext e3 hr
    · exact absurd e1 (h2 (by simpa using hr) n e2)
  · by_cases hr : r.2 = true
    · obtain ⟨m, hm, e3, e4⟩ := h1 hr
      rw [e4, decOf_dec hm] at e
      cases e
    · simpa using hr
theorem i16_small {n : Int} (h0 : 0 ≤ n) (h1 : n ≤ 32767) : IntKind.i16.wrap n = n := by
  have e1 : (2 : Int) ^ IntKind.i16.bits = 65536 := by decide
  have e2 : (2 : Int) ^ (IntKind.i16.bits - 1) = 32768 := by decide
  unfold IntKind.wrap
  simp only [e1, e2]
  have : n % 65536 = n := by omega
  rw [this]
  have hn : ¬ n ≥ 32768 := by omega
  simp [hn]
/-- The strand that a word tells. -/
def wordS (w : ByteArray) : Option IS := match words 64 w with
  | [a, b] => match decOf a, decOf b with
    | some x, some y => if x ≤ 2000 ∧ y ≤ 5 then some ⟨(x : Int), (y : Int)⟩ else none
    | _, _ => none
  | _ => none
theorem wordS_some {w : ByteArray} {s : IS} (h : wordS w = some s) : ∃ x y : Nat, x ≤ 2000 ∧ y ≤ 5 ∧ words 64 w = [dec x, dec y] ∧ s = ⟨(x : Int), (y : Int)⟩ := by
  unfold wordS at h
  split at h
  · next a b hw =>
    split at h
    · next x y hx hy =>
      split at h
      · next hb =>
        cases h
        rw [(decOf_some hx).1, (decOf_some hy).1] at hw
        exact ⟨x, y, hb.1, hb.2, hw, rfl⟩
      · cases h
    · cases h
  · cases h
theorem wordS_sgn {w : ByteArray} {x y : Int} (h : words 64 w = [sgn x, sgn y]) : wordS w = if (0 ≤ x ∧ x ≤ 2000) ∧ (0 ≤ y ∧ y ≤ 5) then some ⟨x, y⟩ else none := by
  unfold wordS
  rw [h]
  simp only [decOf_sgn]
  by_cases hx : 0 ≤ x ∧ x ≤ 999999999
  · by_cases hy : 0 ≤ y ∧ y ≤ 999999999
    · rw [if_pos hx, if_pos hy]
      simp only
      have ex : ((x.toNat : Nat) : Int) = x := Int.toNat_of_nonneg hx.1
      have ey : ((y.toNat : Nat) : Int) = y := Int.toNat_of_nonneg hy.1
      by_cases hb : x.toNat ≤ 2000 ∧ y.toNat ≤ 5
      · rw [if_pos hb, if_pos (by omega), ex, ey]
      · rw [if_neg hb, if_neg (by omega)]
    · rw [if_pos hx, if_neg hy, if_neg (by omega)]
  · rw [if_neg hx, if_neg (show ¬ ((0 ≤ x ∧ x ≤ 2000) ∧ (0 ≤ y ∧ y ≤ 5)) by omega)]
/-- What the words tell. -/
def readS : List IS → List ByteArray → List IS × Int
  | acc, [] => if acc.all vS = true ∧ acc.length ≤ 8 then (acc, 0) else ([], 5)
  | acc, w :: ws => match wordS w with
    | some s => readS (acc ++ [s]) ws
    | none => ([], 5)
theorem readS_bad : ∀ (ws : List ByteArray) (acc : List IS), ¬ (acc.all vS = true ∧ acc.length ≤ 8) → readS acc ws = ([], 5)
  | [], acc, h => by rw [readS, if_neg h]
  | w :: ws, acc, h => by
    rw [readS]
    cases hw : wordS w with
    | none => rfl
    | some s =>
      simp only
      refine readS_bad ws (acc ++ [s]) (fun z => h ⟨?_, ?_⟩)
      · have := z.1
        rw [List.all_append, Bool.and_eq_true] at this
        exact this.1
      · have := z.2
        rw [List.length_append] at this
        omega
theorem readS_len : ∀ (ws : List ByteArray) (acc : List IS), (readS acc ws).1.length ≤ 8
  | [], acc => by
    rw [readS]
    split
    · next h => exact h.2
    · simp
  | w :: ws, acc => by
    rw [readS]
    cases wordS w with
    | none => simp
    | some s => exact readS_len ws (acc ++ [s])
theorem sSplit64 (w : ByteArray) (hw : w.size ≤ 1048576) : Ev (fun k => spec_l01Split.f k w 64) (words 64 w) := l01Split_ev 64 w hw
theorem sSplit32 (w : ByteArray) (hw : w.size ≤ 1048576) : Ev (fun k => spec_l01Split.f k w 32) (words 32 w) := l01Split_ev 32 w hw
theorem wordS_no2 {w : ByteArray} (h : (words 64 w).length ≠ 2) : wordS w = none := by
  cases hw : wordS w with
  | none => rfl
  | some s =>
    obtain ⟨x, y, _, _, e, _⟩ := wordS_some hw
    rw [e] at h
    exact absurd rfl h
theorem two_of {α : Type} {l : List α} (h : l.length = 2) : ∃ a b, l = [a, b] := by
  match l, h with
  | [a, b], _ => exact ⟨a, b, rfl⟩
theorem spec_loop (ws : List ByteArray) (hl : ws.length ≤ 1048577) (hs : ∀ w ∈ ws, w.size ≤ 1048576) (d : Nat) : ∀ (i : Nat) (acc : List IS), i + d = ws.length → acc.length ≤ i → Ev (fun k => spec_ReadStrands.l0 k acc ws (i : Int)) (readS acc (ws.drop i)) := by
  induction d with
  | zero =>
    intro i acc hi ha
    rw [List.drop_of_length_le (by omega), readS]
    refine Ev.step (fun k => by rw [spec_ReadStrands.l0, if_neg (by omega)]) (Ev.bind (vS_ev acc (by omega)) ?_)
    by_cases hv : acc.all vS = true
    · by_cases h8 : acc.length ≤ 8
      · simp only [if_pos hv, if_neg (show ¬ ((acc.length : Int) > 8) by omega), if_pos (show acc.all vS = true ∧ acc.length ≤ 8 from ⟨hv, h8⟩)]
        exact Ev.now _
      · simp only [if_pos hv, if_pos (show ((acc.length : Int) > 8) by omega), if_neg (show ¬ (acc.all vS = true ∧ acc.length ≤ 8) from fun z => h8 z.2)]
        exact Ev.now _
    · simp only [if_neg hv, if_neg (show ¬ (acc.all vS = true ∧ acc.length ≤ 8) from fun z => hv z.1)]
      exact Ev.now _
  | succ d ih =>
    intro i acc hi ha
    have hil : i < ws.length := by omega
    have wi : wrap64 ((i : Int) + 1) = ((i + 1 : Nat) : Int) := by rw [wr (by omega) (by omega)]; omega
    have hws := hs _ (List.getElem_mem hil)
    have ih1 : ∀ s : IS, Ev (fun k => spec_ReadStrands.l0 k (acc ++ [s]) ws ((i + 1 : Nat) : Int)) (readS (acc ++ [s]) (ws.drop (i + 1))) := fun s => ih (i + 1) (acc ++ [s]) (by omega) (by simp; omega)
    clear ih
    rw [List.drop_eq_getElem_cons hil, readS]
    have no : wordS ws[i] = none → (match wordS ws[i] with | some s => readS (acc ++ [s]) (ws.drop (i + 1)) | none => (([] : List IS), (5 : Int))) = ([], 5) := fun e => by rw [e]
    refine Ev.step (fun k => by rw [spec_ReadStrands.l0, if_pos (by omega), if_pos (by omega), rdW hil]) (Ev.bind (sSplit64 ws[i] hws) ?_)
    by_cases h2 : (words 64 ws[i]).length = 2
    case neg =>
      simp only [if_neg (show ¬ (((words 64 ws[i]).length : Int) = 2) by omega)]
      exact ev_id (Ev.now _) (no (wordS_no2 h2)).symm
    have hsz := words_size 64 ws[i]
    obtain ⟨a, b, hab⟩ := two_of h2
    rw [hab] at hsz
    obtain ⟨ra, hra, a1, a2⟩ := number_of a (Nat.le_trans (hsz a (by simp)) hws)
    obtain ⟨rb, hrb, b1, b2⟩ := number_of b (Nat.le_trans (hsz b (by simp)) hws)
    have ea : rdOf ByteArray.empty [a, b] 0 = a := rfl
    have eb : rdOf ByteArray.empty [a, b] 1 = b := rfl
    rw [hab]
    simp only [List.length_cons, List.length_nil, ea, eb]
    simp only [if_pos (show (((0 + 1 + 1 : Nat) : Int) = 2) by omega), if_pos (show (0 < ((0 + 1 + 1 : Nat) : Int)) by omega), if_pos (show (1 < ((0 + 1 + 1 : Nat) : Int)) by omega)]
    refine Ev.bind hra (Ev.bind hrb ?_)
    cases hx : decOf a with
    | none =>
      simp only [a2 hx, Bool.false_eq_true, if_false]
      refine ev_id (Ev.now _) (no ?_).symm
      unfold wordS; rw [hab]; simp only [hx]
    | some x =>
      cases hy : decOf b with
      | none =>
        simp only [a1 x hx, b2 hy, Bool.false_eq_true, if_false, if_true]
        refine ev_id (Ev.now _) (no ?_).symm
        unfold wordS; rw [hab]; simp only [hx, hy]
      | some y =>
        simp only [a1 x hx, b1 y hy, if_true]
        by_cases hb : x ≤ 2000 ∧ y ≤ 5
        · have ew : wordS ws[i] = some ⟨(x : Int), (y : Int)⟩ := by unfold wordS; rw [hab]; simp only [hx, hy, if_pos hb]
          rw [ew]
          simp only [if_neg (show ¬ ((x : Int) > 2000) by omega), if_neg (show ¬ ((y : Int) ≥ 6) by omega), if_pos (show acc.length < 35184372088832 by omega), wi, i16_small (n := (x : Int)) (by omega) (by omega), show (y : Int) % 256 = y by omega]
          exact ih1 _
        · have ew : wordS ws[i] = none := by unfold wordS; rw [hab]; simp only [hx, hy, if_neg hb]
          rw [ew]
          by_cases hx2 : x ≤ 2000
          · simp only [if_neg (show ¬ ((x : Int) > 2000) by omega), if_pos (show ((y : Int) ≥ 6) by omega)]
            exact Ev.now _
          · simp only [if_pos (show ((x : Int) > 2000) by omega)]
            exact Ev.now _
theorem iSplit64 (w : ByteArray) (hw : w.size ≤ 1048576) : ∃ r : List Int × Bool, Ev (fun k => impl_split.f k w (⟨#[64]⟩ : ByteArray)) r ∧ (r.2 = true → words 64 w = r.1.map sgn) ∧ (∀ ms : List Int, (∀ m ∈ ms, -999999999 ≤ m ∧ m ≤ 999999999) → words 64 w = ms.map sgn → r = (ms, true)) := iSplit_ev 64 (by decide) w hw
theorem impl_loop (ws : List ByteArray) (hl : ws.length ≤ 1048577) (hs : ∀ w ∈ ws, w.size ≤ 1048576) (d : Nat) : ∀ (i : Nat) (acc : List IS), i + d = ws.length → acc.all vS = true → acc.length ≤ 8 → Ev (fun k => impl_ReadStrands.l0 k acc ws (ws.length : Int) (i : Int)) (readS acc (ws.drop i)) := by
  induction d with
  | zero =>
    intro i acc hi ha h8
    rw [List.drop_of_length_le (by omega), readS, if_pos ⟨ha, h8⟩]
    refine Ev.step (f := fun _ => some (acc, 0)) (fun k => by rw [impl_ReadStrands.l0, if_neg (by omega)]) (Ev.now _)
  | succ d ih =>
    intro i acc hi ha h8
    have hil : i < ws.length := by omega
    have wi : wrap64 ((i : Int) + 1) = ((i + 1 : Nat) : Int) := by rw [wr (by omega) (by omega)]; omega
    have hws := hs _ (List.getElem_mem hil)
    rw [List.drop_eq_getElem_cons hil, readS]
    have bad : (∀ s, wordS ws[i] = some s → ¬ ((acc ++ [s]).all vS = true ∧ (acc ++ [s]).length ≤ 8)) → (match wordS ws[i] with | some s => readS (acc ++ [s]) (ws.drop (i + 1)) | none => (([] : List IS), (5 : Int))) = ([], 5) := by
      intro h
      cases hw : wordS ws[i] with
      | none => rfl
      | some s => exact readS_bad _ _ (h s hw)
    obtain ⟨r, hr, h1, h2⟩ := iSplit64 ws[i] hws
    refine Ev.step (fun k => by rw [impl_ReadStrands.l0, if_pos (by omega), if_pos (by omega), if_pos (by omega), rdW hil]) (Ev.bind hr ?_)
    by_cases hok : r.2 = true
    case neg =>
      simp only [if_neg hok]
      refine ev_id (Ev.now _) (bad (fun s hs2 => ?_)).symm
      obtain ⟨x, y, hx, hy, e, _⟩ := wordS_some hs2
      have := h2 [(x : Int), (y : Int)] (fun m hm => by
        rcases List.mem_cons.1 hm with e | hm
        · omega
        · rw [List.mem_singleton] at hm; omega) (by rw [e]; simp [sgn_nonneg])
      rw [this] at hok
      exact absurd rfl hok
    have e := h1 hok
    by_cases hl2 : r.1.length = 2
    case neg =>
      simp only [if_pos hok, if_neg (show ¬ ((r.1.length : Int) = 2) by omega)]
      refine ev_id (Ev.now _) (bad (fun s hs2 => ?_)).symm
      rw [wordS_no2 (by rw [e, List.length_map]; exact hl2)] at hs2
      cases hs2
    by_cases he8 : acc.length = 8
    · simp only [if_pos hok, if_pos (show ((r.1.length : Int) = 2) by omega), if_pos (show ((acc.length : Int) = 8) by omega)]
      refine ev_id (Ev.now _) (bad (fun s hs2 z => ?_)).symm
      have := z.2
      rw [List.length_append, List.length_singleton] at this
      omega
    obtain ⟨⟨l, o⟩, hrr⟩ : ∃ q, r = q := ⟨r, rfl⟩
    subst hrr
    obtain ⟨x, y, rfl⟩ := two_of hl2
    have ew := wordS_sgn (w := ws[i]) (x := x) (y := y) e
    have ex : rd [x, y] 0 = x := rfl
    have ey : rd [x, y] 1 = y := rfl
    simp only at hok
    simp only [if_pos hok, List.length_cons, List.length_nil, ex, ey, within_f, Option.bind_some, if_dec, if_neg (show ¬ ((acc.length : Int) = 8) by omega)]
    simp only [if_pos (show (((0 + 1 + 1 : Nat) : Int) = 2) by omega), if_pos (show (0 < ((0 + 1 + 1 : Nat) : Int)) by omega), if_pos (show (1 < ((0 + 1 + 1 : Nat) : Int)) by omega)]
    by_cases hx : 1 ≤ x ∧ x ≤ 2000
    · by_cases hy : 0 ≤ y ∧ y ≤ 5
      · rw [if_pos (show (0 ≤ x ∧ x ≤ 2000) ∧ (0 ≤ y ∧ y ≤ 5) from ⟨by omega, hy⟩)] at ew
        rw [ew]
        simp only [if_pos hx, if_pos hy, if_pos (show acc.length < 35184372088832 by omega), wi, i16_small (n := x) (by omega) (by omega), show y % 256 = y by omega]
        refine ih (i + 1) (acc ++ [⟨x, y⟩]) (by omega) ?_ (by simp; omega)
        rw [List.all_append, ha, Bool.true_and, List.all_cons, List.all_nil, Bool.and_true]
        have w : wrap64 x = x := wr (by omega) (by omega)
        exact decide_eq_true (show (1 ≤ wrap64 x ∧ wrap64 x ≤ 2000) ∧ y < 6 by rw [w]; omega)
      · rw [if_neg (show ¬ ((0 ≤ x ∧ x ≤ 2000) ∧ (0 ≤ y ∧ y ≤ 5)) from fun z => hy z.2)] at ew
        simp only [if_pos hx, if_neg hy, ew]
        exact Ev.now _
    · simp only [if_neg hx]
      refine ev_id (Ev.now _) (bad (fun s hs2 z => ?_)).symm
      rw [ew] at hs2
      split at hs2
      · next hb =>
        cases hs2
        have z1 := z.1
        rw [List.all_append, List.all_cons, Bool.and_eq_true, Bool.and_eq_true] at z1
        have z2 := of_decide_eq_true z1.2.1
        have w : wrap64 x = x := wr (by omega) (by omega)
        simp only [w] at z2
        exact hx z2.1
      · cases hs2
/-- What a text tells. -/
def toldS (s : ByteArray) : List IS × Int := if s.data.toList = [] then ([], 0) else readS [] (words 32 s)
theorem spec_ev (s : ByteArray) (hs : s.size ≤ 1048576) : Ev (fun k => spec_ReadStrands.f k s) (toldS s) := by
  unfold spec_ReadStrands.f toldS
  simp only [Option.bind_some, ByteArray.toList_eq]
  by_cases h : s.data.toList = []
  · simp only [if_pos h]; exact Ev.now _
  · simp only [if_neg h]
    refine Ev.bind (sSplit32 s hs) ?_
    have hl := words_length 32 s
    exact spec_loop (words 32 s) (by omega) (fun w hw => Nat.le_trans (words_size 32 s w hw) hs) (words 32 s).length 0 [] (by omega) (by simp)
theorem impl_ev (s : ByteArray) (hs : s.size ≤ 1048576) : Ev (fun k => impl_ReadStrands.f k s) (toldS s) := by
  unfold impl_ReadStrands.f toldS
  simp only [ByteArray.toList_eq]
  by_cases h : s.data.toList = []
  · simp only [if_pos h]; exact Ev.now _
  · simp only [if_neg h, Split_f 32 s (by omega), Option.bind_some]
    have hl := words_length 32 s
    exact impl_loop (words 32 s) (by omega) (fun w hw => Nat.le_trans (words_size 32 s w hw) hs) (words 32 s).length 0 [] (by omega) rfl (by simp)
theorem toldS_len (s : ByteArray) : (toldS s).1.length ≤ 8 := by
  unfold toldS
  split
  · simp
  · exact readS_len _ _
theorem FnExactReadStrands : laws_FnExactReadStrands.Pure := by
  intro s hsz
  refine Ev.rounds ?_
  unfold laws_FnExactReadStrands.f
  by_cases hM : (s.size : Int) > 1048576
  · simp only [if_pos hM]; exact Ev.now _
  · simp only [if_neg hM]
    have f1 := spec_ev s (by omega)
    have f2 := impl_ev s (by omega)
    have hl := toldS_len s
    generalize toldS s = r at f1 f2 hl
    have he := eqStrandS_self r.1 (by omega)
    have hm := markS_ev r.1 (by omega)
    have hh := heldS_ev r.1.length (by omega)
    have hneg : ¬ (1 + 2 * (r.1.length : Int) < 0) := by omega
    refine Ev.bind f1 (Ev.bind f2 (Ev.bind he ?_))
    simp only [if_true, bne_self_eq_false]
    refine Ev.step (fun k => by simp only [laws_FnExactReadStrands.j0, Bool.false_eq_true, if_false]; rfl) (Ev.bind hm (Ev.bind hh ?_))
    simp only [if_neg hneg, if_true]
    refine Ev.bind f2 (Ev.bind he ?_)
    simp only [if_true, bne_self_eq_false]
    refine Ev.step (fun k => by simp only [laws_FnExactReadStrands.j1, Bool.false_eq_true, if_false]; rfl) (Ev.bind hh ?_)
    simp only [if_neg hneg, if_true]
    exact Ev.now _
end Go.Proofs.YtddhebmnhcilfaaDoor.Pure
