/- Two fabrics are alike. -/
import Derived.Test.YtpaffbkakgagaaaXFnExactSameFabricx2
namespace Go.Proofs.Ytpaffbkakgagaaa.Pure
open Go.RowKit Go.Proofs.Ytpaffbkakgagaaa.XFnExactSameFabric Go.Proofs.YtpaffbkakgagaaaW.PrintWords Go.Proofs.YtpaffbkakgagaaaW.PrintLast
set_option linter.unusedVariables false
set_option linter.unusedSimpArgs false
theorem wr {n : Int} (h0 : -9223372036854775808 ≤ n) (h1 : n ≤ 9223372036854775807) : wrap64 n = n := by
  unfold wrap64; omega
theorem wf64 {a : Int} (h : (Lit.int .i64 a).wf = true) : -9223372036854775808 ≤ a ∧ a ≤ 9223372036854775807 := by
  simp only [Lit.wf, IntKind.min, IntKind.max, IntKind.signed, IntKind.bits, Bool.and_eq_true, decide_eq_true_eq, if_true] at h
  omega
theorem ev_id {α : Type} {g : Nat → Option α} {r s : α} (h : Ev g r) (e : r = s) : Ev g s := e ▸ h
theorem ev_const {α : Type} {o : Option α} {r : α} (h : o = some r) : Ev (fun _ => o) r := ⟨0, fun _ _ => h⟩
theorem ev_fun {α : Type} {g : Nat → Option α} {r s : α} (h : Ev g r) (k : Ev g s) : r = s := by
  obtain ⟨a, h⟩ := h
  obtain ⟨b, k⟩ := k
  have x := h (max a b) (by omega)
  have y := k (max a b) (by omega)
  rw [x] at y; exact Option.some.inj y
/-- Both come to one answer. -/
def Same {α : Type} (g f : Nat → Option α) : Prop := ∃ r, Ev g r ∧ Ev f r
theorem Same.step {α : Type} {g f g' f' : Nat → Option α} (hg : ∀ k, g (k + 1) = g' k) (hf : ∀ k, f (k + 1) = f' k) (h : Same g' f') : Same g f := by
  obtain ⟨r, a, b⟩ := h
  exact ⟨r, Ev.step hg a, Ev.step hf b⟩
theorem Same.left {α : Type} {g f g' : Nat → Option α} (hg : ∀ k, g (k + 1) = g' k) (h : Same g' f) : Same g f := by
  obtain ⟨r, a, b⟩ := h
  exact ⟨r, Ev.step hg a, b⟩
theorem Same.right {α : Type} {g f f' : Nat → Option α} (hf : ∀ k, f (k + 1) = f' k) (h : Same g f') : Same g f := by
  obtain ⟨r, a, b⟩ := h
  exact ⟨r, a, Ev.step hf b⟩
theorem Same.now {α : Type} (r : α) : Same (fun _ => some r) (fun _ => some r) := ⟨r, Ev.now r, Ev.now r⟩
theorem if_dec {α : Type} {p : Prop} [Decidable p] (a b : α) : (if decide p = true then a else b) = if p then a else b := by
  by_cases h : p <;> simp [h]
theorem w00 : wrap64 0 = 0 := wr (by omega) (by omega)
theorem rdS {l : List ByteArray} {i : Nat} (h : i < l.length) : rdOf ByteArray.empty l (i : Int) = l[i] := by
  unfold rdOf; simp [List.getD, h]
theorem eqStringS_loop (a : List ByteArray) (hn : (a.length : Int) ≤ 4611686018427387904) (d : Nat) : ∀ (i : Nat), i + d = a.length →
    Ev (fun k => laws_eqStringS.l0 k a a (i : Int)) true := by
  induction d with
  | zero =>
    intro i hi
    refine Ev.step (f := fun _ => some true) (fun k => ?_) (Ev.now _)
    simp only [laws_eqStringS.l0]; rw [if_neg (by omega)]
  | succ d ih =>
    intro i hi
    refine Ev.step (fun k => ?_) (ih (i + 1) (by omega))
    simp only [laws_eqStringS.l0, if_true]
    rw [if_pos (by omega), if_pos (by omega), if_pos (by omega), wr (n := (i : Int) + 1) (by omega) (by omega)]; rfl
theorem eqStringS_self (a : List ByteArray) (hn : (a.length : Int) ≤ 4611686018427387904) : Ev (fun k => laws_eqStringS.f k a a) true := by
  unfold laws_eqStringS.f
  simp only [if_true]
  exact eqStringS_loop a hn a.length 0 (by omega)
theorem szString_loop (l : List ByteArray) (hl : (l.length : Int) ≤ 140737488351232) (hs : ∀ x ∈ l, x.size ≤ 140737488351232) (d : Nat) : ∀ (i : Nat) (a : Int), i + d = l.length → 0 ≤ a → a ≤ 1048576 →
    ∃ r, Ev (fun k => laws_szStringS.l0 k l a (i : Int)) r ∧ (r = -1 ∨ (0 ≤ r ∧ r ≤ a ∧ ∀ x ∈ l.drop i, (x.size : Int) ≤ a)) := by
  induction d with
  | zero =>
    intro i a hi h0 h1
    refine ⟨a, Ev.step (f := fun _ => some a) (fun k => ?_) (Ev.now _), .inr ⟨h0, Int.le_refl _, ?_⟩⟩
    · simp only [laws_szStringS.l0]; rw [if_neg (by omega)]
    · rw [List.drop_eq_nil_of_le (by omega)]; simp
  | succ d ih =>
    intro i a hi h0 h1
    have hil : i < l.length := by omega
    have hsz := hs l[i] (List.getElem_mem _)
    have w : wrap64 (a - (l[i].size : Int)) = a - l[i].size := wr (by omega) (by omega)
    by_cases h : a - (l[i].size : Int) < 0
    · refine ⟨-1, Ev.step (f := fun _ => some (-1)) (fun k => ?_) (Ev.now _), .inl rfl⟩
      simp only [laws_szStringS.l0, rdS hil, w]
      rw [if_pos (by omega), if_pos (by omega), if_pos h]
    · obtain ⟨r, e, hr⟩ := ih (i + 1) (a - l[i].size) (by omega) (by omega) (by omega)
      refine ⟨r, Ev.step (fun k => ?_) e, ?_⟩
      · simp only [laws_szStringS.l0, rdS hil, w]
        rw [if_pos (by omega), if_pos (by omega), if_neg h, wr (n := (i : Int) + 1) (by omega) (by omega)]; rfl
      · rcases hr with hr | ⟨h2, h3, h4⟩
        · exact .inl hr
        · refine .inr ⟨h2, by omega, fun x hx => ?_⟩
          rw [List.drop_eq_getElem_cons hil] at hx
          rcases List.mem_cons.1 hx with rfl | hx
          · omega
          · have := h4 x hx; omega
theorem szString_ev (l : List ByteArray) (a : Int) (hl : (l.length : Int) ≤ 140737488351232) (hs : ∀ x ∈ l, x.size ≤ 140737488351232) (h0 : 0 ≤ a) (h1 : a ≤ 1048576) :
    ∃ r, Ev (fun k => laws_szStringS.f k l a) r ∧ (r = -1 ∨ (0 ≤ r ∧ r ≤ a ∧ (l.length : Int) ≤ a ∧ ∀ x ∈ l, (x.size : Int) ≤ a)) := by
  unfold laws_szStringS.f
  have w : wrap64 (a - (l.length : Int)) = a - l.length := wr (by omega) (by omega)
  rw [w]
  by_cases h : a - (l.length : Int) < 0
  · simp only [if_pos h]; exact ⟨-1, Ev.now _, .inl rfl⟩
  · simp only [if_neg h]
    obtain ⟨r, e, hr⟩ := szString_loop l hl hs l.length 0 (a - l.length) (by omega) (by omega) (by omega)
    refine ⟨r, e, ?_⟩
    rcases hr with hr | ⟨h2, h3, h4⟩
    · exact .inl hr
    · exact .inr ⟨h2, by omega, by omega, fun x hx => by have := h4 x (by simpa using hx); omega⟩
theorem toStringS_loop (l : List ByteArray) (hl : (l.length : Int) ≤ 140737488351232) (d : Nat) : ∀ (out rest : List ByteArray) (i : Nat), out.length = i → rest.length = d → i + d = l.length →
    Ev (fun k => laws_toStringS.l0 k l (out ++ rest) (i : Int)) (out ++ l.drop i) := by
  induction d with
  | zero =>
    intro out rest i ho hr hi
    refine Ev.step (f := fun _ => some (out ++ l.drop i)) (fun k => ?_) (Ev.now _)
    simp only [laws_toStringS.l0]
    rw [if_neg (by omega), List.drop_eq_nil_of_le (by omega), List.length_eq_zero_iff.1 hr]
  | succ d ih =>
    intro out rest i ho hr hi
    have hil : i < l.length := by omega
    obtain ⟨y, rest, rfl⟩ : ∃ y r, rest = y :: r := by cases rest with | nil => simp at hr | cons y r => exact ⟨y, r, rfl⟩
    refine Ev.step (fun k => ?_) (ev_id (ih (out ++ [l[i]]) rest (i + 1) (by simp; omega) (by simpa using hr) (by omega)) ?_)
    · simp only [laws_toStringS.l0]
      rw [if_pos (by omega), if_pos (by omega), if_pos (by simp; omega), rdS hil, wr (n := (i : Int) + 1) (by omega) (by omega)]
      have : (out ++ y :: rest).set (i : Int).toNat l[i] = out ++ [l[i]] ++ rest := by
        rw [Int.toNat_natCast, List.set_append_right _ _ (by omega), ho]; simp
      rw [this]; rfl
    · rw [List.drop_eq_getElem_cons hil]; simp only [List.append_assoc, List.cons_append, List.nil_append]
theorem toStringS_ev (l : List ByteArray) (hl : (l.length : Int) ≤ 8796093022208) : Ev (fun k => laws_toStringS.f k l) l := by
  unfold laws_toStringS.f
  have h0 : (0 : Int) ≤ (l.length : Int) := by omega
  have h1 : ((l.length : Int) : Int).toNat ≤ 17592186044416 := by omega
  simp only [if_pos h0, if_pos h1]
  have := toStringS_loop l (by omega) l.length [] (List.replicate l.length (⟨#[]⟩ : ByteArray)) 0 rfl (by simp) (by omega)
  simpa using this
theorem szFabric_ev (a : Int) (l : List ByteArray) (n : Int) (hl : (l.length : Int) ≤ 140737488351232) (hs : ∀ x ∈ l, x.size ≤ 140737488351232) (h0 : 0 ≤ n) (h1 : n ≤ 1048576) :
    ∃ r, Ev (fun k => laws_szFabric.f k a l n) r ∧ (r = -1 ∨ (0 ≤ r ∧ r ≤ n ∧ (l.length : Int) ≤ n ∧ ∀ x ∈ l, (x.size : Int) ≤ n)) := by
  obtain ⟨r, e, hr⟩ := szString_ev l n hl hs h0 h1
  unfold laws_szFabric.f
  rcases hr with rfl | h
  · exact ⟨-1, Ev.bind e (by simp only [show ((-1 : Int) < 0) from by omega, if_true]; exact Ev.now _), .inl rfl⟩
  · refine ⟨r, Ev.bind e ?_, .inr h⟩
    have : ¬ r < 0 := by omega
    simp only [if_neg this]; exact Ev.now _
theorem toFabric_ev (a : Int) (l : List ByteArray) (hl : (l.length : Int) ≤ 8796093022208) : Ev (fun k => laws_toFabric.f k a l) (a, l) := by
  unfold laws_toFabric.f
  exact Ev.bind (toStringS_ev l hl) (Ev.now _)
theorem eqFabric_self (a : Int) (l : List ByteArray) (hl : (l.length : Int) ≤ 4611686018427387904) : Ev (fun k => laws_eqFabric.f k a l a l) true := by
  unfold laws_eqFabric.f
  simp only [if_true]
  exact Ev.bind (eqStringS_self l hl) (by simp only [if_true]; exact Ev.now _)
theorem specSame_loop (a b : List ByteArray) (hab : a.length = b.length) (hn : (a.length : Int) ≤ 4611686018427387904) (x y : Int) (d : Nat) : ∀ (i : Nat), i + d = a.length →
    Ev (fun k => spec_SameFabric.l0 k (i : Int) x a y b) (decide ((a.drop i).map ByteArray.toList = (b.drop i).map ByteArray.toList)) := by
  induction d with
  | zero =>
    intro i hi
    refine Ev.step (f := fun _ => some true) (fun k => ?_) (ev_id (Ev.now _) ?_)
    · simp only [spec_SameFabric.l0]
      rw [if_neg (by omega)]
    · rw [List.drop_eq_nil_of_le (by omega), List.drop_eq_nil_of_le (by omega)]; simp
  | succ d ih =>
    intro i hi
    have ha : i < a.length := by omega
    have hb : i < b.length := by omega
    by_cases e : a[i].toList = b[i].toList
    · refine Ev.step (fun k => ?_) (ev_id (ih (i + 1) (by omega)) ?_)
      · simp only [spec_SameFabric.l0]
        rw [if_pos (by omega), if_pos (by omega), if_pos (by omega), rdS ha, rdS hb, if_pos e, wr (by omega) (by omega)]; rfl
      · simp only [List.drop_eq_getElem_cons ha, List.drop_eq_getElem_cons hb, List.map_cons, List.cons.injEq, e, true_and]
    · refine Ev.step (f := fun _ => some false) (fun k => ?_) (ev_id (Ev.now _) ?_)
      · simp only [spec_SameFabric.l0]
        rw [if_pos (by omega), if_pos (by omega), if_pos (by omega), rdS ha, rdS hb, if_neg e]
      · simp only [List.drop_eq_getElem_cons ha, List.drop_eq_getElem_cons hb, List.map_cons, List.cons.injEq, e, false_and, decide_false]
theorem implSame_loop (a b : List ByteArray) (hab : a.length = b.length) (hn : (a.length : Int) ≤ 4611686018427387904) (d : Nat) : ∀ (i : Nat), i + d = a.length →
    Ev (fun k => slices_Equal_string_string.l0 k a b (a.length : Int) (i : Int)) (decide ((a.drop i).map ByteArray.toList = (b.drop i).map ByteArray.toList)) := by
  induction d with
  | zero =>
    intro i hi
    refine Ev.step (f := fun _ => some true) (fun k => ?_) (ev_id (Ev.now _) ?_)
    · simp only [slices_Equal_string_string.l0]
      rw [if_neg (by omega)]
    · rw [List.drop_eq_nil_of_le (by omega), List.drop_eq_nil_of_le (by omega)]; simp
  | succ d ih =>
    intro i hi
    have ha : i < a.length := by omega
    have hb : i < b.length := by omega
    by_cases e : a[i].toList = b[i].toList
    · refine Ev.step (fun k => ?_) (ev_id (ih (i + 1) (by omega)) ?_)
      · simp only [slices_Equal_string_string.l0]
        rw [if_pos (by omega), if_pos (by omega), if_pos (by omega), if_pos (by omega), rdS ha, rdS hb, if_pos e, wr (by omega) (by omega)]; rfl
      · simp only [List.drop_eq_getElem_cons ha, List.drop_eq_getElem_cons hb, List.map_cons, List.cons.injEq, e, true_and]
    · refine Ev.step (f := fun _ => some false) (fun k => ?_) (ev_id (Ev.now _) ?_)
      · simp only [slices_Equal_string_string.l0]
        rw [if_pos (by omega), if_pos (by omega), if_pos (by omega), if_pos (by omega), rdS ha, rdS hb, if_neg e]
      · simp only [List.drop_eq_getElem_cons ha, List.drop_eq_getElem_cons hb, List.map_cons, List.cons.injEq, e, false_and, decide_false]
theorem SameFabric_same (a : Int) (l : List ByteArray) (b : Int) (m : List ByteArray) (hl : (l.length : Int) ≤ 1048576) :
    Same (fun k => spec_SameFabric.f k a l b m) (fun k => impl_SameFabric.f k a l b m) := by
  unfold spec_SameFabric.f impl_SameFabric.f slices_Equal_string_string.f
  by_cases h : a = b
  · simp only [if_pos h]
    by_cases hn : (l.length : Int) = (m.length : Int)
    · simp only [if_pos hn]
      have hb : ((l.length : Int) != (m.length : Int)) = false := by simp [hn]
      refine ⟨_, Ev.step (fun k => ?_) (specSame_loop l m (by omega) (by omega) a b l.length 0 (by omega)), Ev.bind (implSame_loop l m (by omega) (by omega) l.length 0 (by omega)) (Ev.now _)⟩
      simp only [spec_SameFabric.j0, hb, Bool.false_eq_true, if_false]; rfl
    · simp only [if_neg hn]
      have hb : ((l.length : Int) != (m.length : Int)) = true := by simpa using hn
      refine ⟨false, Ev.step (f := fun _ => some false) (fun k => ?_) (Ev.now _), Ev.now _⟩
      simp only [spec_SameFabric.j0, hb, if_true]
  · simp only [if_neg h]
    refine ⟨false, Ev.step (f := fun _ => some false) (fun k => ?_) (Ev.now _), Ev.now _⟩
    simp only [spec_SameFabric.j0, if_true]
theorem FnExactSameFabric : laws_FnExactSameFabric.Pure := by
  intro a l b m _ ⟨hl, hs⟩ _ ⟨hm, ht⟩
  refine Ev.rounds ?_
  unfold laws_FnExactSameFabric.f
  obtain ⟨r, e, hr⟩ := szFabric_ev a l 1048576 (by omega) hs (by omega) (by omega)
  refine Ev.bind e ?_
  rcases hr with rfl | ⟨h0, h1, h2, h3⟩
  · simp only [show ((-1 : Int) < 0) from by omega, if_true]; exact Ev.now _
  · have hneg : ¬ (r < 0) := by omega
    simp only [if_neg hneg]
    obtain ⟨q, e', hq⟩ := szFabric_ev b m r (by omega) ht (by omega) (by omega)
    refine Ev.bind e' ?_
    rcases hq with rfl | ⟨k0, k1, k2, k3⟩
    · simp only [show ((-1 : Int) < 0) from by omega, if_true]; exact Ev.now _
    · have hneg' : ¬ (q < 0) := by omega
      simp only [if_neg hneg']
      have ta := toFabric_ev a l (by omega)
      have tb := toFabric_ev b m (by omega)
      obtain ⟨c, f1, f2⟩ := SameFabric_same a l b m (by omega)
      refine Ev.bind ta (Ev.bind tb (Ev.bind f1 (Ev.bind ta (Ev.bind tb (Ev.bind f2 ?_)))))
      simp only [bne_self_eq_false, Bool.false_eq_true, if_false]
      refine Ev.bind ta (Ev.bind (eqFabric_self a l (by omega)) ?_)
      simp only [if_true]
      refine Ev.bind tb (Ev.bind (eqFabric_self b m (by omega)) ?_)
      simp only [if_true]; exact Ev.now _
end Go.Proofs.Ytpaffbkakgagaaa.Pure
