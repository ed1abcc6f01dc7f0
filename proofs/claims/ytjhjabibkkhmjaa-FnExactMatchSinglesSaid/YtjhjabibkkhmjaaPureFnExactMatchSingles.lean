/- The statement of FnExactMatchSingles, over numbers and lists alone; no conditions. -/
import Derived.Test.YtjhjabibkkhmjaaXFnExactMatchSinglesx6
namespace Go.Proofs.Ytjhjabibkkhmjaa.Pure
open Go.RowKit Go.Proofs.Ytjhjabibkkhmjaa.XFnExactMatchSingles Go.Proofs.YtjhjabibkkhmjaaW.PrintWords Go.Proofs.YtjhjabibkkhmjaaW.PrintLast
set_option linter.unusedVariables false
set_option linter.unusedSimpArgs false
theorem wr {n : Int} (h0 : -9223372036854775808 ≤ n) (h1 : n ≤ 9223372036854775807) : wrap64 n = n := by
  unfold wrap64; omega
theorem wf64 {a : Int} (h : (Lit.int .i64 a).wf = true) : -9223372036854775808 ≤ a ∧ a ≤ 9223372036854775807 := by
  simp only [Lit.wf, IntKind.min, IntKind.max, IntKind.signed, IntKind.bits, Bool.and_eq_true, decide_eq_true_eq, if_true] at h
  omega
theorem ev_id {α : Type} {g : Nat → Option α} {r s : α} (h : Ev g r) (e : r = s) : Ev g s := e ▸ h
theorem ev_const {α : Type} {o : Option α} {r : α} (h : o = some r) : Ev (fun _ => o) r := ⟨0, fun _ _ => h⟩
theorem ev_fun {α : Type} {g : Nat → Option α} {r s : α} (h : Ev g r) (k : Ev g s) : r = s := by
  obtain ⟨a, h⟩ := h
  obtain ⟨b, k⟩ := k
  have x := h (max a b) (by omega)
  have y := k (max a b) (by omega)
  rw [x] at y; exact Option.some.inj y
/-- Both come to one answer. -/
def Same {α : Type} (g f : Nat → Option α) : Prop := ∃ r, Ev g r ∧ Ev f r
theorem Same.step {α : Type} {g f g' f' : Nat → Option α} (hg : ∀ k, g (k + 1) = g' k) (hf : ∀ k, f (k + 1) = f' k) (h : Same g' f') : Same g f := by
  obtain ⟨r, a, b⟩ := h
  exact ⟨r, Ev.step hg a, Ev.step hf b⟩
theorem Same.left {α : Type} {g f g' : Nat → Option α} (hg : ∀ k, g (k + 1) = g' k) (h : Same g' f) : Same g f := by
  obtain ⟨r, a, b⟩ := h
  exact ⟨r, Ev.step hg a, b⟩
theorem Same.right {α : Type} {g f f' : Nat → Option α} (hf : ∀ k, f (k + 1) = f' k) (h : Same g f') : Same g f := by
  obtain ⟨r, a, b⟩ := h
  exact ⟨r, a, Ev.step hf b⟩
theorem Same.now {α : Type} (r : α) : Same (fun _ => some r) (fun _ => some r) := ⟨r, Ev.now r, Ev.now r⟩
theorem if_dec {α : Type} {p : Prop} [Decidable p] (a b : α) : (if decide p = true then a else b) = if p then a else b := by
  by_cases h : p <;> simp [h]
theorem w00 : wrap64 0 = 0 := wr (by omega) (by omega)
theorem rd_lt {l : List Int} {i : Nat} (h : i < l.length) : rd l (i : Int) = l[i] := by
  unfold rd; simp [List.getD, h]
theorem l00In_f (a b c : Int) : spec_l00In.f a b c = some (decide (b ≤ a ∧ a ≤ c)) := by
  unfold spec_l00In.f
  by_cases h : b ≤ a <;> simp [h]
theorem within_f (a b c : Int) : impl_within.f a b c = some (decide (b ≤ a ∧ a ≤ c)) := by
  unfold impl_within.f
  by_cases h : b ≤ a <;> simp [h]
abbrev LY := S116
abbrev IY := S88
def toY (x : LY) : IY := ⟨x.f0, x.f1, x.f2⟩
theorem rdIY {l : List IY} {i : Nat} (h : i < l.length) : rd_T88 l (i : Int) = l[i] := by
  unfold rd_T88; simp [List.getD, h]
theorem rdLY {l : List LY} {i : Nat} (h : i < l.length) : rd_T116 l (i : Int) = l[i] := by
  unfold rd_T116; simp [List.getD, h]
theorem szYarn_f (l : List LY) (n : Int) (h0 : (l.length : Int) ≤ 140737488351232) (hn : 0 ≤ n ∧ n ≤ 1048576) : laws_szYarnS.f l n = some (if (l.length : Int) ≤ n then n - l.length else -1) := by
  unfold laws_szYarnS.f
  rw [wr (by omega) (by omega)]
  by_cases h : (l.length : Int) ≤ n
  · rw [if_neg (by omega), if_pos h]
  · rw [if_pos (by omega), if_neg h]
theorem toYarnS_loop (l : List LY) (hl : (l.length : Int) ≤ 140737488351232) (d : Nat) : ∀ (out rest : List IY) (i : Nat), out.length = i → rest.length = d → i + d = l.length →
    Ev (fun k => laws_toYarnS.l0 k l (out ++ rest) (i : Int)) (out ++ (l.drop i).map toY) := by
  induction d with
  | zero =>
    intro out rest i ho hr hi
    refine Ev.step (f := fun _ => some (out ++ (l.drop i).map toY)) (fun k => ?_) (Ev.now _)
    simp only [laws_toYarnS.l0]
    rw [if_neg (by omega), List.drop_eq_nil_of_le (by omega), List.length_eq_zero_iff.1 hr]; simp
  | succ d ih =>
    intro out rest i ho hr hi
    have hil : i < l.length := by omega
    obtain ⟨y, rest, rfl⟩ : ∃ y r, rest = y :: r := by cases rest with | nil => simp at hr | cons y r => exact ⟨y, r, rfl⟩
    refine Ev.step (fun k => ?_) (ev_id (ih (out ++ [toY l[i]]) rest (i + 1) (by simp; omega) (by simpa using hr) (by omega)) ?_)
    · simp only [laws_toYarnS.l0, laws_toYarn.f, Option.bind_some]
      rw [if_pos (by omega), if_pos (by omega), if_pos (by simp; omega), rdLY hil, wr (n := (i : Int) + 1) (by omega) (by omega)]
      have : (out ++ y :: rest).set (i : Int).toNat (⟨l[i].f0, l[i].f1, l[i].f2⟩ : IY) = out ++ [toY l[i]] ++ rest := by
        rw [Int.toNat_natCast, List.set_append_right _ _ (by omega), ho]; simp [toY]
      rw [this]; rfl
    · rw [List.drop_eq_getElem_cons hil]; simp only [List.map_cons, List.append_assoc, List.cons_append, List.nil_append]
theorem toYarnS_ev (l : List LY) (hl : (l.length : Int) ≤ 140737488351232) (hl2 : l.length ≤ 46912496118442) : Ev (fun k => laws_toYarnS.f k l) (l.map toY) := by
  unfold laws_toYarnS.f
  have h0 : (0 : Int) ≤ (l.length : Int) := by omega
  have h1 : ((l.length : Int) : Int).toNat ≤ 46912496118442 := by omega
  simp only [if_pos h0, if_pos h1]
  have := toYarnS_loop l hl l.length [] (List.replicate l.length z88) 0 rfl (by simp) (by omega)
  simpa using this
theorem eqYarnS_loop (l : List IY) (hl : (l.length : Int) ≤ 140737488351232) (d : Nat) : ∀ (i : Nat), i + d = l.length → Ev (fun k => laws_eqYarnS.l0 k l l (i : Int)) true := by
  induction d with
  | zero =>
    intro i hi
    refine Ev.step (f := fun _ => some true) (fun k => ?_) (Ev.now _)
    simp only [laws_eqYarnS.l0]; rw [if_neg (by omega)]
  | succ d ih =>
    intro i hi
    refine Ev.step (fun k => ?_) (ih (i + 1) (by omega))
    simp only [laws_eqYarnS.l0, laws_eqYarn.f, if_true, Option.bind_some]
    rw [if_pos (by omega), if_pos (by omega), if_pos (by omega), wr (n := (i : Int) + 1) (by omega) (by omega)]; rfl
theorem eqYarnS_self (l : List IY) (hl : (l.length : Int) ≤ 140737488351232) : Ev (fun k => laws_eqYarnS.f k l l) true := by
  unfold laws_eqYarnS.f
  simp only [if_true]
  exact eqYarnS_loop l hl l.length 0 (by omega)
/-- What a valid yarn is. -/
def vY (x : IY) : Bool := decide ((1 ≤ wrap64 x.f0 ∧ wrap64 x.f0 ≤ 5000) ∧ (-2000 ≤ wrap64 x.f1 ∧ wrap64 x.f1 ≤ 2000) ∧ (1 ≤ wrap64 x.f2 ∧ wrap64 x.f2 ≤ 2000))
theorem vY_spec (x : IY) : spec_l03Yarn.f x.f0 x.f1 x.f2 = some (vY x) := by
  unfold spec_l03Yarn.f vY
  simp only [l00In_f, Option.bind_some, if_dec]
  by_cases h1 : 1 ≤ wrap64 x.f0 ∧ wrap64 x.f0 ≤ 5000 <;> by_cases h2 : -2000 ≤ wrap64 x.f1 ∧ wrap64 x.f1 ≤ 2000 <;> simp [h1, h2]
theorem vY_impl (x : IY) : impl_ValidYarn.f x.f0 x.f1 x.f2 = some (vY x) := by
  unfold impl_ValidYarn.f vY
  simp only [within_f, Option.bind_some, if_dec]
  by_cases h1 : 1 ≤ wrap64 x.f0 ∧ wrap64 x.f0 ≤ 5000 <;> by_cases h2 : -2000 ≤ wrap64 x.f1 ∧ wrap64 x.f1 ≤ 2000 <;> simp [h1, h2]
theorem vYarn_eq : vYarn = vY := by
  funext x
  have h := vYarn_f x
  rw [vY_impl] at h
  exact (Option.some.inj h).symm
/-- The code of yarns. -/
def yCode (l : List IY) (b : Bool) : Int := if l.all vY = true then (if b = true then (if (l.length : Int) > 10 then 3 else 0) else 2) else 1
theorem impl_yCode (l : List IY) (b : Bool) (hl : (l.length : Int) ≤ 140737488351232) : impl_yarnsCode.f l b = some (yCode l b) := by
  unfold impl_yarnsCode.f yCode
  rw [if_pos (by omega), vYarn_eq]
theorem spec_yCode_loop (l : List IY) (b : Bool) (hl : (l.length : Int) ≤ 140737488351232) (d : Nat) : ∀ (i : Nat), i + d = l.length → (∀ x ∈ l.take i, vY x = true) →
    Ev (fun k => spec_l03Asked.l0 k l b (i : Int)) (yCode l b) := by
  induction d with
  | zero =>
    intro i hi ha
    refine Ev.step (f := fun _ => some (yCode l b)) (fun k => ?_) (Ev.now _)
    simp only [spec_l03Asked.l0]
    have : l.all vY = true := by
      rw [List.all_eq_true]; intro x hx; exact ha x (by rw [List.take_of_length_le (by omega)]; exact hx)
    rw [if_neg (by omega)]
    unfold yCode
    rw [if_pos this]
    cases b <;> simp <;> split <;> rfl
  | succ d ih =>
    intro i hi ha
    have hil : i < l.length := by omega
    cases hv : vY l[i] with
    | true =>
      refine Ev.step (fun k => ?_) (ih (i + 1) (by omega) ?_)
      · simp only [spec_l03Asked.l0, rdIY hil, vY_spec, Option.bind_some, hv, if_true]
        rw [if_pos (by omega), if_pos (by omega), wr (n := (i : Int) + 1) (by omega) (by omega)]; rfl
      · intro x hx
        rw [List.take_succ_eq_append_getElem hil] at hx
        rcases List.mem_append.1 hx with h | h
        · exact ha x h
        · simp at h; rw [h]; exact hv
    | false =>
      refine Ev.step (f := fun _ => some (yCode l b)) (fun k => ?_) (Ev.now _)
      simp only [spec_l03Asked.l0, rdIY hil, vY_spec, Option.bind_some, hv]
      rw [if_pos (by omega), if_pos (by omega)]
      have : ¬ l.all vY = true := by
        intro h
        have := List.all_eq_true.1 h l[i] (List.getElem_mem _)
        rw [hv] at this; cases this
      unfold yCode
      rw [if_neg this]; simp
theorem spec_yCode (l : List IY) (b : Bool) (hl : (l.length : Int) ≤ 140737488351232) : Ev (fun k => spec_l03Asked.f k l b) (yCode l b) := by
  unfold spec_l03Asked.f
  exact spec_yCode_loop l b hl l.length 0 (by omega) (by simp)
theorem yCode_zero {l : List IY} {b : Bool} (h : yCode l b = 0) : (∀ x ∈ l, vY x = true) ∧ b = true ∧ l.length ≤ 10 := by
  unfold yCode at h
  by_cases h1 : l.all vY = true
  · rw [if_pos h1] at h
    by_cases h2 : b = true
    · rw [if_pos h2] at h
      by_cases h3 : (l.length : Int) > 10
      · rw [if_pos h3] at h; omega
      · exact ⟨List.all_eq_true.1 h1, h2, by omega⟩
    · rw [if_neg h2] at h; omega
  · rw [if_neg h1] at h; omega
theorem wadd (a b : Int) : wrap64 (wrap64 a + b) = wrap64 (a + b) := by unfold wrap64; omega
theorem wsum (a b : Int) : wrap64 (a + wrap64 b) = wrap64 (a + b) := by unfold wrap64; omega
theorem markYarnS_loop (d : Nat) : ∀ (a : List IY) (m : Int) (i : Nat), i + d = a.length → (a.length : Int) ≤ 1073741824 → 0 ≤ m → m + 3 * d ≤ 4611686018427387904 →
    ∃ r : List IY, Ev (fun k => laws_markYarnS.l0 k a m (i : Int)) (m + 3 * d, r) := by
  induction d with
  | zero =>
    intro a m i hi hn h0 h1
    refine ⟨a, Ev.step (f := fun _ => some (m, a)) (fun k => ?_) (ev_id (Ev.now _) (by simp))⟩
    simp only [laws_markYarnS.l0]
    rw [if_neg (by omega)]
  | succ d ih =>
    intro a m i hi hn h0 h1
    have w1 : wrap64 (m + 1) = m + 1 := wr (by omega) (by omega)
    have w2 : wrap64 (m + 1 + 1) = m + 2 := by rw [wr (by omega) (by omega)]; omega
    have w4 : wrap64 (m + 2 + 1) = m + 3 := by rw [wr (by omega) (by omega)]; omega
    have w3 : wrap64 ((i : Int) + 1) = ((i + 1 : Nat) : Int) := by rw [wr (by omega) (by omega)]; omega
    have step : ∀ b1 b2 b3 : List IY, b1 = a.set i (⟨IntKind.i16.wrap m, (rd_T88 a i).f1, (rd_T88 a i).f2⟩ : IY) → b2 = b1.set i (⟨(rd_T88 b1 i).f0, IntKind.i16.wrap (m + 1), (rd_T88 b1 i).f2⟩ : IY) → b3 = b2.set i (⟨(rd_T88 b2 i).f0, (rd_T88 b2 i).f1, IntKind.i16.wrap (m + 2)⟩ : IY) →
        b3.length = a.length ∧ ∀ k, laws_markYarnS.l0 (k + 1) a m (i : Int) = laws_markYarnS.l0 k b3 (m + 3) ((i + 1 : Nat) : Int) := by
      intro b1 b2 b3 e1 e2 e3
      refine ⟨by rw [e3, e2, e1]; simp, fun k => ?_⟩
      simp only [laws_markYarnS.l0, Option.bind_some, w1, w2, w3, w4, Int.toNat_natCast]
      rw [if_pos (by omega), if_pos (by omega), ← e1, ← e2, ← e3]
    obtain ⟨hb, eb⟩ := step _ _ _ rfl rfl rfl
    generalize List.set _ i _ = b at hb eb
    obtain ⟨r, h⟩ := ih b (m + 3) (i + 1) (by omega) (by omega) (by omega) (by omega)
    exact ⟨r, Ev.step eb (ev_id h (by rw [Prod.mk.injEq]; exact ⟨by omega, rfl⟩))⟩
theorem markYarnS_ev (a : List IY) (hn : (a.length : Int) ≤ 1073741824) : ∃ r : List IY, Ev (fun k => laws_markYarnS.f k a 1) (1 + 3 * (a.length : Int), r) := by
  obtain ⟨r, h⟩ := markYarnS_loop a.length a 1 0 (by omega) hn (by omega) (by omega)
  exact ⟨r, h⟩
theorem size_same (a : Int) : spec_l01Size.f a = impl_size.f a := by
  unfold spec_l01Size.f spec_l00Max.f impl_size.f mx
  generalize wrap64 (-a) = w
  by_cases h : a > w
  · rw [if_pos h, if_neg (by omega)]; rfl
  · rw [if_neg h]
    by_cases h2 : a < w
    · rw [if_pos h2]; rfl
    · rw [if_neg h2, show w = a by omega]; rfl
/-- A whole number's size. -/
def ab (x : Int) : Int := if x < -x then -x else x
theorem size_ab {x : Int} (h : -1000000 ≤ x ∧ x ≤ 1000000) : spec_l01Size.f x = some (ab x) := by
  unfold spec_l01Size.f spec_l00Max.f ab
  rw [wr (n := -x) (by omega) (by omega)]
  by_cases h1 : x > -x
  · rw [if_pos h1, if_neg (by omega)]; rfl
  · rw [if_neg h1]
    by_cases h2 : x < -x
    · rw [if_pos h2]; rfl
    · rw [if_neg h2, show -x = x by omega]; rfl
theorem ab_or (x : Int) : (ab x = x ∧ 0 ≤ x) ∨ (ab x = -x ∧ x ≤ 0) := by
  unfold ab
  by_cases h : x < -x
  · rw [if_pos h]; exact .inr ⟨rfl, by omega⟩
  · rw [if_neg h]; exact .inl ⟨rfl, by omega⟩
theorem ab_bd {x n : Int} (h : -n ≤ x ∧ x ≤ n) : 0 ≤ ab x ∧ ab x ≤ n := by unfold ab; split <;> omega
/-- What yarns leave over at a number of turns. -/
def restT (l : List IY) (t : Int) : Int := (l.map fun y => ab (y.f1 + t)).sum
def OkT (l : List IY) : Prop := ∀ x ∈ l, -2000 ≤ x.f1 ∧ x.f1 ≤ 2000
theorem restT_cons (y : IY) (l : List IY) (t : Int) : restT (y :: l) t = ab (y.f1 + t) + restT l t := by simp [restT]
theorem restT_bd : ∀ (l : List IY) (t : Int), OkT l → (-2000 ≤ t ∧ t ≤ 2000) → 0 ≤ restT l t ∧ restT l t ≤ 4000 * (l.length : Int)
  | [], t, _, _ => by simp [restT]
  | y :: l, t, h, ht => by
    have hy := h y (by simp)
    have a := ab_bd (x := y.f1 + t) (n := 4000) (by omega)
    have b := restT_bd l t (fun x hx => h x (List.mem_cons_of_mem _ hx)) ht
    rw [restT_cons, List.length_cons]
    omega
theorem rest_ev (l : List IY) (hl : l.length ≤ 10) (ho : OkT l) (t : Int) (ht : -2000 ≤ t ∧ t ≤ 2000) (d : Nat) : ∀ (i : Nat) (acc : Int), i + d = l.length → 0 ≤ acc → acc + 4000 * (d : Int) ≤ 40000 →
    Ev (fun k => spec_l03Rest.l0 k l t acc (i : Int)) (acc + restT (l.drop i) t) := by
  induction d with
  | zero =>
    intro i acc hi h0 h1
    refine Ev.step (f := fun _ => some (acc + restT (l.drop i) t)) (fun k => ?_) (Ev.now _)
    simp only [spec_l03Rest.l0]
    rw [if_neg (by omega), List.drop_eq_nil_of_le (by omega)]
    simp [restT]
  | succ d ih =>
    intro i acc hi h0 h1
    have hil : i < l.length := by omega
    have hy := ho l[i] (List.getElem_mem _)
    have a := ab_bd (x := l[i].f1 + t) (n := 4000) (by omega)
    refine Ev.step (fun k => ?_) (ev_id (ih (i + 1) (acc + ab (l[i].f1 + t)) (by omega) (by omega) (by omega)) ?_)
    · simp only [spec_l03Rest.l0, rdIY hil]
      rw [if_pos (by omega), if_pos (by omega), wr (n := l[i].f1) (by omega) (by omega), wr (n := l[i].f1 + t) (by omega) (by omega), size_ab (by omega), Option.bind_some, wr (n := acc + ab (l[i].f1 + t)) (by omega) (by omega), wr (n := (i : Int) + 1) (by omega) (by omega)]
      rfl
    · rw [List.drop_eq_getElem_cons hil, restT_cons]; omega
theorem rest_evf (l : List IY) (hl : l.length ≤ 10) (ho : OkT l) (t : Int) (ht : -2000 ≤ t ∧ t ≤ 2000) : Ev (fun k => spec_l03Rest.f k l t) (restT l t) := by
  unfold spec_l03Rest.f
  have h := rest_ev l hl ho t ht l.length 0 0 (by omega) (by omega) (by omega)
  exact ev_id h (by simp)
/-- The turns with the least rest. -/
theorem balT (l : List IY) (hl : l.length ≤ 10) (ho : OkT l) (d : Nat) : ∀ (n b : Int), 1 ≤ n → n + d = 2001 → (-2000 ≤ b ∧ b ≤ 2000) → (∀ t, -n < t → t < n → restT l b ≤ restT l t) →
    ∃ c, Ev (fun k => spec_l03Balance.l0 k l b (restT l b) n) (c, restT l c) ∧ (-2000 ≤ c ∧ c ≤ 2000) ∧ ∀ t, -2000 ≤ t → t ≤ 2000 → restT l c ≤ restT l t := by
  induction d with
  | zero =>
    intro n b h1 hn hb hm
    refine ⟨b, Ev.step (f := fun _ => some (b, restT l b)) (fun k => ?_) (Ev.now _), hb, fun t h2 h3 => hm t (by omega) (by omega)⟩
    simp only [spec_l03Balance.l0]; rw [if_neg (by omega)]
  | succ d ih =>
    intro n b h1 hn hb hm
    have w1 : wrap64 (-n) = -n := wr (by omega) (by omega)
    have w2 : wrap64 (n + 1) = n + 1 := wr (by omega) (by omega)
    have hn2 : n ≤ 2000 := by omega
    have e1 := rest_evf l hl ho n (by omega)
    have e2 := rest_evf l hl ho (-n) (by omega)
    by_cases c1 : restT l n < restT l b
    · by_cases c2 : restT l (-n) < restT l n
      · obtain ⟨c, h, hc, hall⟩ := ih (n + 1) (-n) (by omega) (by omega) (by omega) (by
          intro t h2 h3
          rcases (by omega : t = n ∨ t = -n ∨ (-n < t ∧ t < n)) with rfl | rfl | h4
          · omega
          · omega
          · have := hm t h4.1 h4.2; omega)
        refine ⟨c, Ev.step (fun k => by simp only [spec_l03Balance.l0, w1, w2]; rw [if_pos hn2]) (Ev.bind e1 ?_), hc, hall⟩
        simp only [if_pos c1]
        refine Ev.bind e2 ?_
        simp only [if_pos c2]; exact h
      · obtain ⟨c, h, hc, hall⟩ := ih (n + 1) n (by omega) (by omega) (by omega) (by
          intro t h2 h3
          rcases (by omega : t = n ∨ t = -n ∨ (-n < t ∧ t < n)) with rfl | rfl | h4
          · omega
          · omega
          · have := hm t h4.1 h4.2; omega)
        refine ⟨c, Ev.step (fun k => by simp only [spec_l03Balance.l0, w1, w2]; rw [if_pos hn2]) (Ev.bind e1 ?_), hc, hall⟩
        simp only [if_pos c1]
        refine Ev.bind e2 ?_
        simp only [if_neg c2]; exact h
    · by_cases c2 : restT l (-n) < restT l b
      · obtain ⟨c, h, hc, hall⟩ := ih (n + 1) (-n) (by omega) (by omega) (by omega) (by
          intro t h2 h3
          rcases (by omega : t = n ∨ t = -n ∨ (-n < t ∧ t < n)) with rfl | rfl | h4
          · omega
          · omega
          · have := hm t h4.1 h4.2; omega)
        refine ⟨c, Ev.step (fun k => by simp only [spec_l03Balance.l0, w1, w2]; rw [if_pos hn2]) (Ev.bind e1 ?_), hc, hall⟩
        simp only [if_neg c1]
        refine Ev.bind e2 ?_
        simp only [if_pos c2]; exact h
      · obtain ⟨c, h, hc, hall⟩ := ih (n + 1) b (by omega) (by omega) (by omega) (by
          intro t h2 h3
          rcases (by omega : t = n ∨ t = -n ∨ (-n < t ∧ t < n)) with rfl | rfl | h4
          · omega
          · omega
          · have := hm t h4.1 h4.2; omega)
        refine ⟨c, Ev.step (fun k => by simp only [spec_l03Balance.l0, w1, w2]; rw [if_pos hn2]) (Ev.bind e1 ?_), hc, hall⟩
        simp only [if_neg c1]
        refine Ev.bind e2 ?_
        simp only [if_neg c2]; exact h
/-- The balance of yarns: turns, and the least rest of all. -/
theorem balance_ev (l : List IY) (hl : l.length ≤ 10) (ho : OkT l) : ∃ c, Ev (fun k => spec_l03Balance.f k l) (c, restT l c) ∧ (-2000 ≤ c ∧ c ≤ 2000) ∧ ∀ t, -2000 ≤ t → t ≤ 2000 → restT l c ≤ restT l t := by
  obtain ⟨c, h, hc, hall⟩ := balT l hl ho 2000 1 0 (by omega) (by omega) (by omega) (by
    intro t h2 h3
    obtain rfl : t = 0 := by omega
    exact Int.le_refl _)
  refine ⟨c, ?_, hc, hall⟩
  unfold spec_l03Balance.f
  exact Ev.bind (rest_evf l hl ho 0 (by omega)) h
/-- Of two yarns. -/
theorem balance_two (y z : IY) (hy : -2000 ≤ y.f1 ∧ y.f1 ≤ 2000) (hz : -2000 ≤ z.f1 ∧ z.f1 ≤ 2000) : ∃ c, Ev (fun k => spec_l03Balance.f k [y, z]) (c, ab (y.f1 - z.f1)) := by
  obtain ⟨c, h, hc, hall⟩ := balance_ev [y, z] (by simp) (by
    intro x hx
    simp only [List.mem_cons, List.not_mem_nil, or_false] at hx
    rcases hx with rfl | rfl
    · exact hy
    · exact hz)
  refine ⟨c, ev_id h ?_⟩
  have h1 := hall (-y.f1) (by omega) (by omega)
  have e : ∀ t, restT [y, z] t = ab (y.f1 + t) + ab (z.f1 + t) := by intro t; simp [restT]
  rw [e, e] at h1
  rw [e]
  have q : ab (y.f1 + c) + ab (z.f1 + c) = ab (y.f1 - z.f1) := by
    have h2 : ab (y.f1 + -y.f1) = 0 := by unfold ab; split <;> omega
    rw [h2] at h1
    rcases ab_or (y.f1 + c) with ⟨a1, a2⟩ | ⟨a1, a2⟩ <;> rcases ab_or (z.f1 + c) with ⟨b1, b2⟩ | ⟨b1, b2⟩ <;> rcases ab_or (z.f1 + -y.f1) with ⟨c1, c2⟩ | ⟨c1, c2⟩ <;> rcases ab_or (y.f1 - z.f1) with ⟨d1, d2⟩ | ⟨d1, d2⟩ <;> rw [a1, b1, c1] at h1 <;> rw [a1, b1, d1] <;> omega
  rw [q]
abbrev IP := S92
theorem rdIP {l : List IP} {i : Nat} (h : i < l.length) : rd_T92 l (i : Int) = l[i] := by
  unfold rd_T92; simp [List.getD, h]
theorem eqA2S_loop (l : List IP) (hl : (l.length : Int) ≤ 140737488351232) (d : Nat) : ∀ (i : Nat), i + d = l.length → Ev (fun k => laws_eqInt64A2S.l0 k l l (i : Int)) true := by
  induction d with
  | zero =>
    intro i hi
    refine Ev.step (f := fun _ => some true) (fun k => ?_) (Ev.now _)
    simp only [laws_eqInt64A2S.l0]; rw [if_neg (by omega)]
  | succ d ih =>
    intro i hi
    refine Ev.step (fun k => ?_) (ih (i + 1) (by omega))
    simp only [laws_eqInt64A2S.l0, laws_eqInt64A2.f, if_true, Option.bind_some]
    rw [if_pos (by omega), if_pos (by omega), if_pos (by omega), wr (n := (i : Int) + 1) (by omega) (by omega)]; rfl
theorem eqA2S_self (l : List IP) (hl : (l.length : Int) ≤ 140737488351232) : Ev (fun k => laws_eqInt64A2S.f k l l) true := by
  unfold laws_eqInt64A2S.f
  simp only [if_true]
  exact eqA2S_loop l hl l.length 0 (by omega)
theorem markA2S_loop (d : Nat) : ∀ (a : List IP) (m : Int) (i : Nat), i + d = a.length → a.length ≤ 1000 → m = 1 + 2 * (i : Int) → (∀ j (h : j < a.length), j < i → a[j] = ⟨1 + 2 * (j : Int), 2 + 2 * (j : Int)⟩) →
    ∃ r : List IP, Ev (fun k => laws_markInt64A2S.l0 k a m (i : Int)) (1 + 2 * (a.length : Int), r) ∧ r.length = a.length ∧ ∀ j (h : j < r.length), r[j] = ⟨1 + 2 * (j : Int), 2 + 2 * (j : Int)⟩ := by
  induction d with
  | zero =>
    intro a m i hi hn hm ha
    refine ⟨a, Ev.step (f := fun _ => some (1 + 2 * (a.length : Int), a)) (fun k => ?_) (Ev.now _), rfl, fun j h => ha j h (by omega)⟩
    simp only [laws_markInt64A2S.l0]
    rw [if_neg (by omega), show m = 1 + 2 * (a.length : Int) by omega]
  | succ d ih =>
    intro a m i hi hn hm ha
    have hil : i < a.length := by omega
    have e : laws_markInt64A2S.s2 (laws_markInt64A2S.s1 a m (i : Int)) (m + 1) (i : Int) = a.set i ⟨m, m + 1⟩ := by
      unfold laws_markInt64A2S.s2 laws_markInt64A2S.s1
      have e2 : rd_T92 (a.set i (⟨m, (rd_T92 a (i : Int)).f1⟩ : IP)) (i : Int) = ⟨m, (rd_T92 a (i : Int)).f1⟩ := by
        rw [rdIP (by simpa using hil)]; simp
      rw [Int.toNat_natCast, e2]
      simp
    obtain ⟨r, h1, h2, h3⟩ := ih (a.set i ⟨m, m + 1⟩) (m + 2) (i + 1) (by simp; omega) (by simpa using hn) (by omega) (by
      intro j h hj
      rw [List.getElem_set]
      split
      · rename_i e; subst e; rw [hm]; congr 1; omega
      · exact ha j (by simpa using h) (by omega))
    simp only [List.length_set] at h1 h2
    refine ⟨r, Ev.step (fun k => ?_) h1, h2, h3⟩
    simp only [laws_markInt64A2S.l0]
    rw [if_pos (by omega), if_pos (by omega), wr (n := m + 1) (by omega) (by omega), wr (n := m + 1 + 1) (by omega) (by omega), wr (n := (i : Int) + 1) (by omega) (by omega), e, show m + 1 + 1 = m + 2 by omega]; rfl
theorem heldA2S_loop (a : List IP) (hn : a.length ≤ 1000) (ha : ∀ j (h : j < a.length), a[j] = ⟨1 + 2 * (j : Int), 2 + 2 * (j : Int)⟩) (d : Nat) : ∀ (i : Nat), i + d = a.length →
    Ev (fun k => laws_heldInt64A2S.l0 k a (1 + 2 * (i : Int)) (i : Int)) (1 + 2 * (a.length : Int)) := by
  induction d with
  | zero =>
    intro i hi
    refine Ev.step (f := fun _ => some (1 + 2 * (a.length : Int))) (fun k => ?_) (Ev.now _)
    simp only [laws_heldInt64A2S.l0]
    rw [if_neg (by omega), show i = a.length by omega]
  | succ d ih =>
    intro i hi
    have hil : i < a.length := by omega
    refine Ev.step (fun k => ?_) (ih (i + 1) (by omega))
    simp only [laws_heldInt64A2S.l0, rdIP hil, ha i hil]
    rw [if_pos (by omega), if_pos (by omega), if_pos True.intro, wr (n := 1 + 2 * (i : Int) + 1) (by omega) (by omega), if_pos (by omega), wr (n := 1 + 2 * (i : Int) + 1 + 1) (by omega) (by omega), wr (n := (i : Int) + 1) (by omega) (by omega), show 1 + 2 * (i : Int) + 1 + 1 = 1 + 2 * ((i + 1 : Nat) : Int) by omega]; rfl
theorem markA2S_ev (a : List IP) (hn : a.length ≤ 1000) :
    ∃ r : List IP, Ev (fun k => laws_markInt64A2S.f k a 1) (1 + 2 * (a.length : Int), r) ∧ Ev (fun k => laws_heldInt64A2S.f k r 1) (1 + 2 * (a.length : Int)) := by
  obtain ⟨r, h1, h2, h3⟩ := markA2S_loop a.length a 1 0 (by omega) hn (by omega) (fun j h hj => by omega)
  refine ⟨r, h1, ?_⟩
  have := heldA2S_loop r (by omega) h3 r.length 0 (by omega)
  rw [h2] at this
  exact this
/-- Numbers, as the program has them. -/
def up (N : List Nat) : List Int := N.map fun (j : Nat) => (j : Int)
theorem up_len (N : List Nat) : (up N).length = N.length := by unfold up; simp
theorem rd_up {N : List Nat} {j : Nat} (h : j < N.length) : rd (up N) (j : Int) = ((N[j] : Nat) : Int) := by
  unfold rd up; simp [List.getD, h]
theorem bit_bf : ∀ b : Nat, b < 1024 → ∀ i : Nat, i < 10 → decide (Go.bits .and .i64 (shr .i64 (b : Int) (i : Int)) 1 = 1) = b.testBit i := by decide +kernel
theorem bit0_bf : ∀ b : Nat, b < 1024 → ∀ i : Nat, i < 10 → decide (Go.bits .and .i64 (shr .i64 (b : Int) (i : Int)) 1 = 0) = !b.testBit i := by decide +kernel
theorem or_bf : ∀ b : Nat, b < 1024 → ∀ i : Nat, i < 10 → Go.bits .or .i64 (b : Int) (shl .i64 1 (i : Int)) = ((b ||| 2 ^ i : Nat) : Int) := by decide +kernel
theorem mem0_bf : ∀ n : Nat, n < 11 → impl_members.f 13 (wrap64 (shl .i64 1 (n : Int) - 1)) = some (up (List.range n)) := by decide +kernel
theorem members0_ev {n : Nat} (h : n < 11) : Ev (fun k => impl_members.f k (wrap64 (shl .i64 1 (n : Int) - 1))) (up (List.range n)) :=
  ⟨13, fun k hk => at_rounds (fun k => impl_members.mono _ k) hk (mem0_bf n h)⟩
theorem or_lt {b i : Nat} (hb : b < 1024) (hi : i < 10) : b ||| 2 ^ i < 1024 := by
  have h2 : 2 ^ i < 2 ^ 10 := Nat.pow_lt_pow_right (by decide) hi
  exact Nat.or_lt_two_pow (n := 10) hb h2
theorem or_bit (b i j : Nat) : (b ||| 2 ^ i).testBit j = (b.testBit j || decide (i = j)) := by
  rw [Nat.testBit_or, Nat.testBit_two_pow]
theorem up_app (A B : List Nat) : up (A ++ B) = up A ++ up B := by simp [up]
theorem up_take (A : List Nat) (n : Nat) : (up A).take n = up (A.take n) := by simp [up]
theorem up_drop (A : List Nat) (n : Nat) : (up A).drop n = up (A.drop n) := by simp [up]
/-- How far two yarns' twists are apart. -/
def tw (l : List IY) (i : Nat) : Int := (rd_T88 l (i : Int)).f1
def rs (l : List IY) (a b : Nat) : Int := ab (tw l a - tw l b)
def toP (p : Nat × Nat) : IP := ⟨(p.1 : Int), (p.2 : Int)⟩
def upP (P : List (Nat × Nat)) : List IP := P.map toP
def sumP (l : List IY) (P : List (Nat × Nat)) : Int := (P.map fun p => rs l p.1 p.2).sum
theorem upP_len (P : List (Nat × Nat)) : (upP P).length = P.length := by simp [upP]
theorem upP_app (P Q : List (Nat × Nat)) : upP (P ++ Q) = upP P ++ upP Q := by simp [upP]
theorem sumP_app (l : List IY) (P Q : List (Nat × Nat)) : sumP l (P ++ Q) = sumP l P + sumP l Q := by simp [sumP]
section
variable (l : List IY) (hl : l.length ≤ 10) (ho : OkT l)
include ho
theorem tw_bd {i : Nat} (hi : i < l.length) : -2000 ≤ tw l i ∧ tw l i ≤ 2000 := by
  unfold tw; rw [rdIY hi]; exact ho _ (List.getElem_mem _)
theorem rs_bd {a b : Nat} (ha : a < l.length) (hb : b < l.length) : 0 ≤ rs l a b ∧ rs l a b ≤ 4000 := by
  have x := tw_bd l ho ha
  have y := tw_bd l ho hb
  exact ab_bd (by omega)
theorem sumP_bd : ∀ (P : List (Nat × Nat)), (∀ p ∈ P, p.1 < l.length ∧ p.2 < l.length) → 0 ≤ sumP l P ∧ sumP l P ≤ 4000 * (P.length : Int)
  | [], _ => by simp [sumP]
  | p :: P, h => by
    have a := rs_bd l ho (h p (by simp)).1 (h p (by simp)).2
    have b := sumP_bd P (fun q hq => h q (List.mem_cons_of_mem _ hq))
    have e : sumP l (p :: P) = rs l p.1 p.2 + sumP l P := by simp [sumP]
    rw [e, List.length_cons]; omega
theorem rest1 {a b : Nat} (ha : a < l.length) (hb : b < l.length) : impl_MatchSingles_1.rest l (toP (a, b)) = some (rs l a b) := by
  have x := tw_bd l ho ha
  have y := tw_bd l ho hb
  unfold impl_MatchSingles_1.rest toP
  have c : (0 : Int) ≤ (a : Int) ∧ (a : Int) < (l.length : Int) ∧ (0 : Int) ≤ (b : Int) ∧ (b : Int) < (l.length : Int) := by omega
  simp only [if_pos c]
  have e1 : (rd_T88 l (a : Int)).f1 = tw l a := rfl
  have e2 : (rd_T88 l (b : Int)).f1 = tw l b := rfl
  rw [e1, e2, wr (n := tw l a) (by omega) (by omega), wr (n := tw l b) (by omega) (by omega), wr (n := tw l a - tw l b) (by omega) (by omega), ← size_same, size_ab (by omega)]
  rfl
theorem sum1 : ∀ (P : List (Nat × Nat)) (s : Int), (∀ p ∈ P, p.1 < l.length ∧ p.2 < l.length) → 0 ≤ s → s + 4000 * (P.length : Int) ≤ 1000000 → impl_MatchSingles_1.sum l (upP P) s = some (s + sumP l P)
  | [], s, _, _, _ => by simp [upP, impl_MatchSingles_1.sum, sumP]
  | (a, b) :: P, s, h, h0, h1 => by
    have hp := h (a, b) (by simp)
    have r : 0 ≤ rs l a b ∧ rs l a b ≤ 4000 := rs_bd l ho hp.1 hp.2
    rw [List.length_cons] at h1
    show impl_MatchSingles_1.sum l (toP (a, b) :: upP P) s = _
    rw [impl_MatchSingles_1.sum, rest1 l ho hp.1 hp.2, Option.bind_some, wr (n := s + rs l a b) (by omega) (by omega), sum1 P _ (fun q hq => h q (List.mem_cons_of_mem _ hq)) (by omega) (by omega)]
    congr 1
    have e : sumP l ((a, b) :: P) = rs l a b + sumP l P := by simp [sumP]
    rw [e]; omega
/-- Pairs that are too far apart: nothing better comes of them. -/
theorem none_better (hl : l.length ≤ 10) (B : List IP) (m : Int) (hm : 0 ≤ m) : ∀ (d : Nat) (L : List Nat) (P : List (Nat × Nat)), L.length = 2 * d → P.length + d ≤ 5 → (∀ i ∈ L, i < l.length) → (∀ p ∈ P, p.1 < l.length ∧ p.2 < l.length) → m ≤ sumP l P →
    Ev (fun k => impl_matches.f l k (up L) (upP P) B m) (B, m) := by
  intro d
  induction d with
  | zero =>
    intro L P hL hP hi hp hs
    have e0 : (up L).length = 0 := by rw [up_len]; omega
    refine Ev.step (f := fun _ => some (B, m)) (fun k => ?_) (Ev.now _)
    rw [impl_matches.f, if_pos e0]
    unfold impl_MatchSingles_1.f
    rw [sum1 l ho P 0 hp (by omega) (by omega), Option.bind_some, if_neg (by omega)]
  | succ d ih =>
    intro L P hL hP hi hp hs
    have e0 : ¬ (up L).length = 0 := by rw [up_len]; omega
    refine Ev.step (fun k => by rw [impl_matches.f, if_neg e0]) ?_
    have loop : ∀ (e x : Nat), 1 ≤ x → x + e = L.length → Ev (fun k => impl_matches.l0 l k (up L) (upP P) x B m) (B, m) := by
      intro e
      induction e with
      | zero =>
        intro x h1 hx
        refine Ev.step (f := fun _ => some (B, m)) (fun k => ?_) (Ev.now _)
        rw [impl_matches.l0, if_neg (by rw [up_len]; omega)]
      | succ e ih2 =>
        intro x h1 hx
        have g : 1 ≤ x ∧ (up L).length ≤ 500 ∧ (upP P).length ≤ 1048576 := by rw [up_len, upP_len]; omega
        have hx0 : 0 < L.length := by omega
        have hxl : x < L.length := by omega
        refine Ev.step (fun k => by rw [impl_matches.l0, if_pos (by rw [up_len]; omega), if_pos g]) ?_
        have r0 := rd_up hx0
        have rx := rd_up hxl
        have q0 := hi L[0] (List.getElem_mem _)
        have qx := hi L[x] (List.getElem_mem _)
        have eP : upP P ++ [(⟨rd (up L) 0, rd (up L) (x : Int)⟩ : IP)] = upP (P ++ [(L[0], L[x])]) := by
          rw [upP_app, rx]
          have : rd (up L) 0 = ((L[0] : Nat) : Int) := r0
          rw [this]; rfl
        rw [eP, up_take, up_drop, up_drop, ← up_app]
        have hsub : ∀ i ∈ ((L.take x).drop 1 ++ L.drop (x + 1)), i ∈ L := by
          intro i h
          rcases List.mem_append.1 h with h | h
          · exact List.mem_of_mem_take (List.mem_of_mem_drop h)
          · exact List.mem_of_mem_drop h
        refine Ev.bind (ih ((L.take x).drop 1 ++ L.drop (x + 1)) (P ++ [(L[0], L[x])]) (by simp [List.length_take]; omega) (by simp; omega) (fun i h => hi i (hsub i h)) (by
          intro p hpp
          rcases List.mem_append.1 hpp with h | h
          · exact hp p h
          · simp at h; subst h; exact ⟨q0, qx⟩) (by
          rw [sumP_app]
          have := rs_bd l ho q0 qx
          have e : sumP l [(L[0], L[x])] = rs l L[0] L[x] := by simp [sumP]
          rw [e]; omega)) ?_
        exact ih2 (x + 1) (by omega) (by omega)
    exact loop (L.length - 1) 1 (by omega) (by omega)
end
/-- The first one that has no pair. -/
theorem skip_ev {u : Nat} (hu : u < 1024) {a : Nat} (ha : a < 10) (hb : ∀ i, i < a → u.testBit i = true) (h0 : u.testBit a = false) : ∀ (e j : Nat), j + e = a → Ev (fun k => spec_l03Match_from.skip k (u : Int) j) a := by
  intro e
  induction e with
  | zero =>
    intro j hj
    obtain rfl : j = a := by omega
    have q := bit_bf u hu j ha
    rw [h0] at q
    have q' := of_decide_eq_false q
    refine Ev.step (f := fun _ => some j) (fun k => ?_) (Ev.now _)
    rw [spec_l03Match_from.skip, if_pos (by omega), if_neg q']
  | succ e ih =>
    intro j hj
    have q := bit_bf u hu j (by omega)
    rw [hb j (by omega)] at q
    have q' := of_decide_eq_true q
    refine Ev.step (fun k => ?_) (ih (j + 1) (by omega))
    rw [spec_l03Match_from.skip, if_pos (by omega), if_pos q']
/-- How the two searches' states hang together. -/
def MR (mi ms : Int) (fd : Bool) : Prop := (fd = true ∧ mi = ms ∧ 0 ≤ ms) ∨ (fd = false ∧ mi = -1)
theorem MR.found {mi ms : Int} {fd : Bool} (h : MR mi ms fd) (hf : fd = true) : mi = ms ∧ 0 ≤ ms := by
  rcases h with ⟨_, a, b⟩ | ⟨a, _⟩
  · exact ⟨a, b⟩
  · rw [hf] at a; cases a
/-- The table of rests. -/
def TabR (l : List IY) (R : List Int) : Prop := ∀ a b, a < b → b < l.length → R.getD (a * 10 + b) 0 = rs l a b
theorem match_go (l : List IY) (hl : l.length ≤ 10) (ho : OkT l) (R : List Int) (hR : TabR l R) : ∀ (d : Nat) (L : List Nat) (P : List (Nat × Nat)) (u : Nat) (B : List IP) (mi ms : Int) (fd : Bool), L.length = 2 * d → 2 * P.length + L.length = l.length → u < 1024 → L.Pairwise (· < ·) → (∀ i ∈ L, i < l.length) → (∀ i, i < l.length → (u.testBit i = false ↔ i ∈ L)) → (∀ p ∈ P, p.1 < l.length ∧ p.2 < l.length) → B.length ≤ 10 → MR mi ms fd →
    ∃ (B' : List IP) (m' : Int), Ev (fun k => spec_l03Match_from.f R (l.length : Int) k (upP P) (u : Int) (sumP l P) B ms fd) (B', m', true) ∧ Ev (fun k => impl_matches.f l k (up L) (upP P) B mi) (B', m') ∧ 0 ≤ m' ∧ B'.length ≤ 10 := by
  intro d
  induction d with
  | zero =>
    intro L P u B mi ms fd hL hP hu hs hi hb hp hB hM
    have e0 : (up L).length = 0 := by rw [up_len]; omega
    have sb := sumP_bd l ho P hp
    have s1 := sum1 l ho P 0 hp (by omega) (by omega)
    have gl : (upP P).length ≤ 1048576 := by rw [upP_len]; omega
    have g2 : 2 * ((upP P).length : Int) = (l.length : Int) := by rw [upP_len]; omega
    by_cases c : fd = true ∧ sumP l P ≥ ms
    · obtain ⟨m1, m2⟩ := hM.found c.1
      obtain ⟨rfl, c2⟩ := c
      refine ⟨B, ms, Ev.step (f := fun _ => some (B, ms, true)) (fun k => by rw [spec_l03Match_from.f, if_pos ⟨rfl, c2⟩]) (Ev.now _), Ev.step (f := fun _ => some (B, ms)) (fun k => ?_) (Ev.now _), m2, hB⟩
      rw [impl_matches.f, if_pos e0]
      unfold impl_MatchSingles_1.f
      rw [s1, Option.bind_some, if_neg (by omega), m1]
    · refine ⟨upP P, sumP l P, Ev.step (f := fun _ => some (upP P, sumP l P, true)) (fun k => by rw [spec_l03Match_from.f, if_neg c, if_pos gl, if_pos g2]) (Ev.now _), Ev.step (f := fun _ => some (upP P, sumP l P)) (fun k => ?_) (Ev.now _), sb.1, by rw [upP_len]; omega⟩
      rw [impl_matches.f, if_pos e0]
      unfold impl_MatchSingles_1.f
      have c2 : mi < 0 ∨ 0 + sumP l P < mi := by
        rcases hM with ⟨a, b, e⟩ | ⟨a, b⟩
        · right
          have : ¬ sumP l P ≥ ms := fun z => c ⟨a, z⟩
          omega
        · left; omega
      rw [s1, Option.bind_some, if_pos c2, Int.zero_add]
  | succ d ih =>
    intro L P u B mi ms fd hL hP hu hs hi hb hp hB hM
    have e0 : ¬ (up L).length = 0 := by rw [up_len]; omega
    have gl : (upP P).length ≤ 1048576 := by rw [upP_len]; omega
    have g2 : ¬ 2 * ((upP P).length : Int) = (l.length : Int) := by rw [upP_len]; omega
    have sb := sumP_bd l ho P hp
    by_cases c : fd = true ∧ sumP l P ≥ ms
    · obtain ⟨m1, m2⟩ := hM.found c.1
      obtain ⟨rfl, c2⟩ := c
      subst m1
      exact ⟨B, mi, Ev.step (f := fun _ => some (B, mi, true)) (fun k => by rw [spec_l03Match_from.f, if_pos ⟨rfl, c2⟩]) (Ev.now _), none_better l ho hl B mi m2 (d + 1) L P hL (by omega) hi hp c2, m2, hB⟩
    · obtain ⟨a, t, rfl⟩ : ∃ a t, L = a :: t := by
        cases L with
        | nil => simp at hL
        | cons a t => exact ⟨a, t, rfl⟩
      rw [List.pairwise_cons] at hs
      obtain ⟨hat, hst⟩ := hs
      have hal := hi a (by simp)
      have ha0 : u.testBit a = false := (hb a hal).2 (by simp)
      have hlow : ∀ i, i < a → u.testBit i = true := by
        intro i h
        cases q : u.testBit i with
        | true => rfl
        | false =>
          have := (hb i (by omega)).1 q
          rcases List.mem_cons.1 this with r | r
          · omega
          · have := hat i r; omega
      have sk := skip_ev hu (by omega) hlow ha0 a 0 (by omega)
      -- the loop over the second ones
      have loop : ∀ (e b : Nat) (X Y : List Nat) (B : List IP) (mi ms : Int) (fd : Bool), b + e = l.length → a < b → t = X ++ Y → (∀ i ∈ X, i < b) → (∀ i ∈ Y, b ≤ i) → B.length ≤ 10 → MR mi ms fd →
          ∃ (B' : List IP) (mi' ms' : Int) (fd' : Bool), Ev (fun k => spec_l03Match_from.l0 R (l.length : Int) k (upP P) (u : Int) (sumP l P) a b B ms fd) (B', ms', fd') ∧ Ev (fun k => impl_matches.l0 l k (up (a :: t)) (upP P) (X.length + 1) B mi) (B', mi') ∧ MR mi' ms' fd' ∧ B'.length ≤ 10 ∧ (fd = true ∨ Y ≠ [] → fd' = true) := by
        intro e
        induction e with
        | zero =>
          intro b X Y B mi ms fd hbe hab ht hX hY hB hM
          have hY0 : Y = [] := by
            cases Y with
            | nil => rfl
            | cons y Y =>
              have := hY y (by simp)
              have := hi y (by rw [ht]; simp)
              omega
          subst hY0
          refine ⟨B, mi, ms, fd, Ev.step (f := fun _ => some (B, ms, fd)) (fun k => by rw [spec_l03Match_from.l0, if_neg (by omega)]) (Ev.now _), Ev.step (f := fun _ => some (B, mi)) (fun k => by rw [impl_matches.l0, if_neg (by rw [up_len, ht]; simp)]) (Ev.now _), hM, hB, fun q => ?_⟩
          rcases q with q | q
          · exact q
          · exact absurd rfl q
        | succ e ih2 =>
          intro b X Y B mi ms fd hbe hab ht hX hY hB hM
          have hbl : b < l.length := by omega
          have gg : a < 10 ∧ b < 10 ∧ (upP P).length ≤ 1048576 := ⟨by omega, by omega, gl⟩
          have q := bit0_bf u hu b (by omega)
          cases hbit : u.testBit b with
          | true =>
            rw [hbit] at q
            have q' := of_decide_eq_false q
            have hnb : b ∉ (a :: t) := fun z => by
              have := (hb b hbl).2 z
              rw [hbit] at this; cases this
            obtain ⟨B', mi', ms', fd', s, i, m, bl, f⟩ := ih2 (b + 1) X Y B mi ms fd (by omega) (by omega) ht (fun i h => Nat.lt_succ_of_lt (hX i h)) (by
              intro i h
              have h1 := hY i h
              rcases Nat.lt_or_ge b i with h2 | h2
              · omega
              · have : i = b := by omega
                subst this
                exact absurd (by rw [ht]; simp [h]) hnb) hB hM
            exact ⟨B', mi', ms', fd', Ev.step (fun k => by rw [spec_l03Match_from.l0, if_pos (by omega), if_pos gg, if_neg q']) s, i, m, bl, f⟩
          | false =>
            rw [hbit] at q
            have q' := of_decide_eq_true q
            have hmb := (hb b hbl).1 hbit
            have hbY : b ∈ Y := by
              rcases List.mem_cons.1 hmb with h | h
              · omega
              · rw [ht] at h
                rcases List.mem_append.1 h with h | h
                · have := hX b h; omega
                · exact h
            obtain ⟨c, Y', rfl⟩ : ∃ c Y', Y = c :: Y' := by
              cases Y with
              | nil => cases hbY
              | cons c Y' => exact ⟨c, Y', rfl⟩
            have hst' := hst
            rw [ht, List.pairwise_append] at hst'
            obtain ⟨hX1, hY1, hXY⟩ := hst'
            rw [List.pairwise_cons] at hY1
            have hcb : c = b := by
              have h1 := hY c (by simp)
              rcases List.mem_cons.1 hbY with h | h
              · exact h.symm
              · have := hY1.1 b h; omega
            subst hcb
            have hx : X.length + 1 < (up (a :: t)).length := by rw [up_len, ht]; simp
            have hg : 1 ≤ X.length + 1 ∧ (up (a :: t)).length ≤ 500 ∧ (upP P).length ≤ 1048576 := ⟨by omega, by rw [up_len]; omega, gl⟩
            have eL : ((up (a :: t)).take (X.length + 1)).drop 1 ++ (up (a :: t)).drop (X.length + 1 + 1) = up (X ++ Y') := by
              rw [up_take, up_drop, up_drop, ← up_app, ht]
              congr 1
              simp
            have eP : upP P ++ [(⟨rd (up (a :: t)) 0, rd (up (a :: t)) ((X.length + 1 : Nat) : Int)⟩ : IP)] = upP (P ++ [(a, c)]) := by
              have r0 : rd (up (a :: t)) 0 = (a : Int) := rd_up (N := a :: t) (j := 0) (by simp)
              have rx := rd_up (N := a :: t) (j := X.length + 1) (by rw [ht]; simp)
              have ec : (a :: t)[X.length + 1]'(by rw [ht]; simp) = c := by simp [ht]
              rw [ec] at rx
              rw [upP_app, r0, rx]; rfl
            have eS : wrap64 (sumP l P + R.getD (a * 10 + c) 0) = sumP l (P ++ [(a, c)]) := by
              have r := rs_bd l ho hal hbl
              have e : sumP l [(a, c)] = rs l a c := by simp [sumP]
              rw [hR a c hab hbl, sumP_app, e, wr (by omega) (by omega)]
            have eN : upP P ++ [(⟨(a : Int), (c : Int)⟩ : IP)] = upP (P ++ [(a, c)]) := by rw [upP_app]; rfl
            have eU : Go.bits .or .i64 (Go.bits .or .i64 (u : Int) (shl .i64 1 (a : Int))) (shl .i64 1 (c : Int)) = ((u ||| 2 ^ a ||| 2 ^ c : Nat) : Int) := by
              rw [or_bf u hu a (by omega), or_bf _ (or_lt hu (by omega)) c (by omega)]
            have hlen : (X ++ Y').length = 2 * d := by
              have z := hL
              rw [ht] at z
              simp at z ⊢
              omega
            obtain ⟨B1, m1, s1, i1, p1, b1⟩ := ih (X ++ Y') (P ++ [(a, c)]) (u ||| 2 ^ a ||| 2 ^ c) B mi ms fd hlen (by
                have z := hP
                rw [ht] at z
                simp at z ⊢
                omega) (or_lt (or_lt hu (by omega)) (by omega)) (List.pairwise_append.2 ⟨hX1, hY1.2, fun x hx y hy => hXY x hx y (List.mem_cons_of_mem _ hy)⟩) (by
                intro i h
                refine hi i ?_
                rw [ht]
                rcases List.mem_append.1 h with h | h <;> simp [h]) (by
                intro i h
                rw [or_bit, or_bit]
                constructor
                · intro z
                  simp only [Bool.or_eq_false_iff, decide_eq_false_iff_not] at z
                  have := (hb i h).1 z.1.1
                  rw [ht] at this
                  rcases List.mem_cons.1 this with r | r
                  · exact absurd r.symm z.1.2
                  · rcases List.mem_append.1 r with r | r
                    · exact List.mem_append.2 (.inl r)
                    · rcases List.mem_cons.1 r with r | r
                      · exact absurd r.symm z.2
                      · exact List.mem_append.2 (.inr r)
                · intro z
                  have hm : i ∈ t := by
                    rw [ht]
                    rcases List.mem_append.1 z with r | r <;> simp [r]
                  have n1 : a ≠ i := by have := hat i hm; omega
                  have n2 : c ≠ i := by
                    rcases List.mem_append.1 z with r | r
                    · have := hX i r; omega
                    · have := hY1.1 i r; omega
                  have n0 := (hb i h).2 (List.mem_cons_of_mem _ hm)
                  rw [n0, decide_eq_false n1, decide_eq_false n2]; rfl) (by
                intro p h
                rcases List.mem_append.1 h with h | h
                · exact hp p h
                · simp at h; subst h; exact ⟨hal, hbl⟩) hB hM
            obtain ⟨B', mi', ms', fd', s, i, m, bl, f⟩ := ih2 (c + 1) (X ++ [c]) Y' B1 m1 m1 true (by omega) (by omega) (by rw [ht]; simp) (by
                intro i h
                rcases List.mem_append.1 h with h | h
                · have := hX i h; omega
                · simp at h; omega) (by intro i h; have := hY1.1 i h; omega) b1 (.inl ⟨rfl, rfl, p1⟩)
            refine ⟨B', mi', ms', fd', ?_, ?_, m, bl, fun _ => f (.inl rfl)⟩
            · refine Ev.step (fun k => by rw [spec_l03Match_from.l0, if_pos (by omega), if_pos gg, if_pos q', eN, eU, eS]) (Ev.bind s1 ?_)
              exact s
            · refine Ev.step (fun k => by rw [impl_matches.l0, if_pos hx, if_pos hg, eL, eP]) (Ev.bind i1 ?_)
              have z : (X ++ [c]).length + 1 = X.length + 1 + 1 := by simp
              rw [z] at i
              exact i
      obtain ⟨B', mi', ms', fd', s, i, m, bl, f⟩ := loop (l.length - (a + 1)) (a + 1) [] t B mi ms fd (by omega) (by omega) rfl (by simp) (fun i h => hat i h) hB hM
      have hne : t ≠ [] := fun z => by rw [z] at hL; simp at hL; omega
      have hf := f (.inr hne)
      subst hf
      obtain ⟨m1, m2⟩ := m.found rfl
      subst m1
      refine ⟨B', mi', Ev.step (fun k => by rw [spec_l03Match_from.f, if_neg c, if_pos gl, if_neg g2]) (Ev.bind sk s), Ev.step (fun k => by rw [impl_matches.f, if_neg e0]; rfl) i, m2, bl⟩
theorem inner_ev (l : List IY) (hl : l.length ≤ 10) (ho : OkT l) (a : Nat) (ha : a < l.length) : ∀ (g b : Nat) (R : List Int), R.length = 100 → b + g = l.length →
    ∃ R', Ev (fun k => spec_MatchSingles.inner k l a g b R) R' ∧ R'.length = 100 ∧ (∀ j, b ≤ j → j < l.length → R'.getD (a * 10 + j) 0 = rs l a j) ∧ (∀ i, i < a * 10 + b → R'.getD i 0 = R.getD i 0) := by
  intro g
  induction g with
  | zero =>
    intro b R hR hb
    exact ⟨R, Ev.now _, hR, fun j h1 h2 => by omega, fun _ _ => rfl⟩
  | succ g ih =>
    intro b R hR hb
    have hbl : b < l.length := by omega
    have x := tw_bd l ho ha
    have y := tw_bd l ho hbl
    obtain ⟨c, h⟩ := balance_two (rd_T88 l (a : Int)) (rd_T88 l (b : Int)) x y
    obtain ⟨R', h1, h2, h3, h4⟩ := ih (b + 1) (R.set (a * 10 + b) (rs l a b)) (by simpa using hR) (by omega)
    refine ⟨R', ?_, h2, ?_, ?_⟩
    · show Ev (fun k => (spec_l03Balance.f k [rd_T88 l (a : Int), rd_T88 l (b : Int)]).bind fun r => spec_MatchSingles.inner k l a g (b + 1) (R.set (a * 10 + b) r.2)) R'
      exact Ev.bind h h1
    · intro j hj1 hj2
      rcases Nat.lt_or_ge b j with h5 | h5
      · exact h3 j (by omega) hj2
      · obtain rfl : j = b := by omega
        rw [h4 _ (by omega)]
        simp [List.getD, List.getElem?_set, show a * 10 + j < R.length by omega]
    · intro i hi
      rw [h4 i (by omega)]
      have : a * 10 + b ≠ i := by omega
      simp [List.getD, List.getElem?_set, this]
theorem outer_ev (l : List IY) (hl : l.length ≤ 10) (ho : OkT l) : ∀ (g a : Nat) (R : List Int), R.length = 100 → a + g = l.length →
    ∃ R', Ev (fun k => spec_MatchSingles.outer k l g a R) R' ∧ R'.length = 100 ∧ (∀ c j, a ≤ c → c < j → j < l.length → R'.getD (c * 10 + j) 0 = rs l c j) ∧ (∀ i, i < a * 10 + (a + 1) → R'.getD i 0 = R.getD i 0) := by
  intro g
  induction g with
  | zero =>
    intro a R hR ha
    exact ⟨R, Ev.now _, hR, fun c j h1 h2 h3 => by omega, fun _ _ => rfl⟩
  | succ g ih =>
    intro a R hR ha
    obtain ⟨R1, i1, i2, i3, i4⟩ := inner_ev l hl ho a (by omega) (l.length - (a + 1)) (a + 1) R hR (by omega)
    obtain ⟨R', h1, h2, h3, h4⟩ := ih (a + 1) R1 i2 (by omega)
    refine ⟨R', ?_, h2, ?_, ?_⟩
    · show Ev (fun k => (spec_MatchSingles.inner k l a (l.length - (a + 1)) (a + 1) R).bind fun R2 => spec_MatchSingles.outer k l g (a + 1) R2) R'
      exact Ev.bind i1 h1
    · intro c j h5 h6 h7
      rcases Nat.lt_or_ge a c with h8 | h8
      · exact h3 c j (by omega) h6 h7
      · obtain rfl : c = a := by omega
        rw [h4 _ (by omega)]
        exact i3 j (by omega) h7
    · intro i hi
      rw [h4 i (by omega), i4 i (by omega)]
theorem tab_ev (l : List IY) (hl : l.length ≤ 10) (ho : OkT l) : ∃ R, Ev (fun k => spec_MatchSingles.outer k l l.length 0 (List.replicate 100 0)) R ∧ TabR l R := by
  obtain ⟨R, h1, _, h3, _⟩ := outer_ev l hl ho l.length 0 (List.replicate 100 0) (by simp) (by omega)
  exact ⟨R, h1, fun a b h h2 => h3 a b (by omega) h h2⟩
/-- Both answer alike; the answer is no long one. -/
theorem MatchSingles_same (l : List IY) (hl : (l.length : Int) ≤ 140737488351232) (hw : ∀ x ∈ l, -32768 ≤ x.f1 ∧ x.f1 ≤ 32767) :
    ∃ r : List IP × Int × Int, Ev (fun k => spec_MatchSingles.f k l) r ∧ Ev (fun k => impl_MatchSingles.f k l) r ∧ r.1.length ≤ 10 := by
  unfold spec_MatchSingles.f impl_MatchSingles.f
  simp only [impl_yCode l true hl, Option.bind_some]
  by_cases hc : yCode l true = 0
  · obtain ⟨hv, _, hlen⟩ := yCode_zero hc
    have ho : OkT l := by
      intro x hx
      have h1 := hw x hx
      have h2 := hv x hx
      unfold vY at h2
      have z := (of_decide_eq_true h2).2.1
      rw [wr (n := x.f1) (by omega) (by omega)] at z
      exact z
    by_cases hodd : l.length % 2 = 1
    · refine ⟨([], 0, 4), Ev.bind (spec_yCode l true hl) ?_, ?_, by simp⟩
      · have c1 : yCode l true = 0 ∧ l.length % 2 = 1 := ⟨hc, hodd⟩
        simp only [if_pos c1]
        exact Ev.now _
      · simp only [if_pos hc, if_pos hodd]; exact Ev.now _
    · obtain ⟨R, hR1, hR2⟩ := tab_ev l hlen ho
      obtain ⟨B, m, s, i, hm, hB⟩ := match_go l hlen ho R hR2 (l.length / 2) (List.range l.length) [] 0 [] (-1) 0 false (by simp; omega) (by simp) (by omega) List.pairwise_lt_range (by simp) (by simp) (by simp) (by simp) (.inr ⟨rfl, rfl⟩)
      refine ⟨(B, m, 0), Ev.bind (spec_yCode l true hl) ?_, ?_, hB⟩
      · have c1 : ¬ (yCode l true = 0 ∧ l.length % 2 = 1) := fun z => hodd z.2
        simp only [if_neg c1, if_pos hc, if_pos hlen]
        exact Ev.bind hR1 (Ev.bind s (Ev.now _))
      · have h20 : l.length ≤ 20 := by omega
        simp only [if_pos hc, if_neg hodd, if_pos h20]
        exact Ev.bind (members0_ev (by omega)) (Ev.bind i (Ev.now _))
  · refine ⟨([], 0, yCode l true), Ev.bind (spec_yCode l true hl) ?_, ?_, by simp⟩
    · have c1 : ¬ (yCode l true = 0 ∧ l.length % 2 = 1) := fun z => hc z.1
      simp only [if_neg c1, if_neg hc]; exact Ev.now _
    · simp only [if_neg hc]; exact Ev.now _
theorem wfp16 {a : Int} (h : (Lit.int .i16 a).wf = true) : -32768 ≤ a ∧ a ≤ 32767 := by
  simp only [Lit.wf, IntKind.min, IntKind.max, IntKind.signed, IntKind.bits, Bool.and_eq_true, decide_eq_true_eq, if_true] at h
  omega
theorem FnExactMatchSingles : laws_FnExactMatchSingles.Pure := by
  intro l ⟨hl, hw⟩
  refine Ev.rounds ?_
  unfold laws_FnExactMatchSingles.f
  simp only [szYarn_f l 1048576 (by omega) (by omega), Option.bind_some]
  by_cases h : (l.length : Int) ≤ 1048576
  · have hn : ¬ (1048576 - (l.length : Int) < 0) := by omega
    simp only [if_pos h, if_neg hn]
    have ts := toYarnS_ev l (by omega) (by omega)
    have hw' : ∀ x ∈ l.map toY, -32768 ≤ x.f1 ∧ x.f1 ≤ 32767 := by
      intro x hx
      obtain ⟨y, hy, rfl⟩ := List.mem_map.1 hx
      exact wfp16 (hw y hy).2.1
    obtain ⟨⟨w, c, e⟩, f1, f2, fl⟩ := MatchSingles_same (l.map toY) (by simp; omega) hw'
    simp only at fl
    have eqs := eqA2S_self w (by omega)
    obtain ⟨s, m1, m2⟩ := markA2S_ev w (by omega)
    obtain ⟨s2, n2⟩ := markYarnS_ev (l.map toY) (by simp; omega)
    have hneg1 : ¬ (1 + 3 * ((l.map toY).length : Int) < 0) := by omega
    have hneg2 : ¬ (1 + 2 * (w.length : Int) < 0) := by omega
    refine Ev.bind ts (Ev.bind f1 (Ev.bind ts (Ev.bind f2 (Ev.bind eqs ?_))))
    simp only [if_true, bne_self_eq_false]
    refine Ev.step (fun k => by simp only [laws_FnExactMatchSingles.j0, Bool.false_eq_true, if_false]; rfl) (Ev.bind ts (Ev.bind (eqYarnS_self (l.map toY) (by simp; omega)) ?_))
    simp only [if_true]
    refine Ev.bind n2 ?_
    simp only [if_neg hneg1]
    refine Ev.bind eqs ?_
    simp only [if_true, bne_self_eq_false]
    refine Ev.step (fun k => by simp only [laws_FnExactMatchSingles.j1, Bool.false_eq_true, if_false]; rfl) (Ev.bind m1 (Ev.bind m2 ?_))
    simp only [if_neg hneg2, if_true]
    refine Ev.bind ts (Ev.bind f2 (Ev.bind eqs ?_))
    simp only [if_true, bne_self_eq_false]
    refine Ev.step (fun k => by simp only [laws_FnExactMatchSingles.j2, Bool.false_eq_true, if_false]; rfl) (Ev.bind m2 ?_)
    simp only [if_neg hneg2, if_true]; exact Ev.now _
  · simp only [if_neg h, show ((-1 : Int) < 0) from by omega, if_true]; exact Ev.now _
end Go.Proofs.Ytjhjabibkkhmjaa.Pure
