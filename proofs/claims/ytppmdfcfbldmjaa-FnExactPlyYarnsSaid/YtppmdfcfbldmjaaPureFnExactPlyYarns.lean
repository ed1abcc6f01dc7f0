/- The program's PlyYarns returns what the reference's returns, for all arguments; no conditions beyond the sizes that the law's row itself gives. -/
import Derived.Test.YtppmdfcfbldmjaaXFnExactPlyYarnsx3
namespace Go.Proofs.Ytppmdfcfbldmjaa.Pure
open Go.RowKit Go.Proofs.Ytppmdfcfbldmjaa.XFnExactPlyYarns Go.Proofs.YtppmdfcfbldmjaaW.PrintWords Go.Proofs.YtppmdfcfbldmjaaW.PrintLast
set_option linter.unusedVariables false
set_option linter.unusedSimpArgs false
theorem wr {n : Int} (h0 : -9223372036854775808 ≤ n) (h1 : n ≤ 9223372036854775807) : wrap64 n = n := by
  unfold wrap64; omega
theorem wf64 {a : Int} (h : (Lit.int .i64 a).wf = true) : -9223372036854775808 ≤ a ∧ a ≤ 9223372036854775807 := by
  simp only [Lit.wf, IntKind.min, IntKind.max, IntKind.signed, IntKind.bits, Bool.and_eq_true, decide_eq_true_eq, if_true] at h
  omega
theorem ev_id {α : Type} {g : Nat → Option α} {r s : α} (h : Ev g r) (e : r = s) : Ev g s := e ▸ h
theorem ev_const {α : Type} {o : Option α} {r : α} (h : o = some r) : Ev (fun _ => o) r := ⟨0, fun _ _ => h⟩
theorem ev_fun {α : Type} {g : Nat → Option α} {r s : α} (h : Ev g r) (k : Ev g s) : r = s := by
  obtain ⟨a, h⟩ := h
  obtain ⟨b, k⟩ := k
  have x := h (max a b) (by omega)
  have y := k (max a b) (by omega)
  rw [x] at y; exact Option.some.inj y
/-- Both come to one answer. -/
def Same {α : Type} (g f : Nat → Option α) : Prop := ∃ r, Ev g r ∧ Ev f r
theorem Same.step {α : Type} {g f g' f' : Nat → Option α} (hg : ∀ k, g (k + 1) = g' k) (hf : ∀ k, f (k + 1) = f' k) (h : Same g' f') : Same g f := by
  obtain ⟨r, a, b⟩ := h
  exact ⟨r, Ev.step hg a, Ev.step hf b⟩
theorem Same.left {α : Type} {g f g' : Nat → Option α} (hg : ∀ k, g (k + 1) = g' k) (h : Same g' f) : Same g f := by
  obtain ⟨r, a, b⟩ := h
  exact ⟨r, Ev.step hg a, b⟩
theorem Same.right {α : Type} {g f f' : Nat → Option α} (hf : ∀ k, f (k + 1) = f' k) (h : Same g f') : Same g f := by
  obtain ⟨r, a, b⟩ := h
  exact ⟨r, a, Ev.step hf b⟩
theorem Same.now {α : Type} (r : α) : Same (fun _ => some r) (fun _ => some r) := ⟨r, Ev.now r, Ev.now r⟩
theorem if_dec {α : Type} {p : Prop} [Decidable p] (a b : α) : (if decide p = true then a else b) = if p then a else b := by
  by_cases h : p <;> simp [h]
theorem w00 : wrap64 0 = 0 := wr (by omega) (by omega)
theorem l00In_f (a b c : Int) : spec_l00In.f a b c = some (decide (b ≤ a ∧ a ≤ c)) := by
  unfold spec_l00In.f
  by_cases h : b ≤ a <;> simp [h]
theorem within_f (a b c : Int) : impl_within.f a b c = some (decide (b ≤ a ∧ a ≤ c)) := by
  unfold impl_within.f
  by_cases h : b ≤ a <;> simp [h]
abbrev LY := S98
abbrev IY := S44
def toY (x : LY) : IY := ⟨x.f0, x.f1, x.f2⟩
theorem rdIY {l : List IY} {i : Nat} (h : i < l.length) : rd_T44 l (i : Int) = l[i] := by
  unfold rd_T44; simp [List.getD, h]
theorem rdLY {l : List LY} {i : Nat} (h : i < l.length) : rd_T98 l (i : Int) = l[i] := by
  unfold rd_T98; simp [List.getD, h]
theorem szYarn_f (l : List LY) (n : Int) (h0 : (l.length : Int) ≤ 140737488351232) (hn : 0 ≤ n ∧ n ≤ 1048576) : laws_szYarnS.f l n = some (if (l.length : Int) ≤ n then n - l.length else -1) := by
  unfold laws_szYarnS.f
  rw [wr (by omega) (by omega)]
  by_cases h : (l.length : Int) ≤ n
  · rw [if_neg (by omega), if_pos h]
  · rw [if_pos (by omega), if_neg h]
theorem toYarnS_loop (l : List LY) (hl : (l.length : Int) ≤ 140737488351232) (d : Nat) : ∀ (out rest : List IY) (i : Nat), out.length = i → rest.length = d → i + d = l.length →
    Ev (fun k => laws_toYarnS.l0 k l (out ++ rest) (i : Int)) (out ++ (l.drop i).map toY) := by
  induction d with
  | zero =>
    intro out rest i ho hr hi
    refine Ev.step (f := fun _ => some (out ++ (l.drop i).map toY)) (fun k => ?_) (Ev.now _)
    simp only [laws_toYarnS.l0]
    rw [if_neg (by omega), List.drop_eq_nil_of_le (by omega), List.length_eq_zero_iff.1 hr]; simp
  | succ d ih =>
    intro out rest i ho hr hi
    have hil : i < l.length := by omega
    obtain ⟨y, rest, rfl⟩ : ∃ y r, rest = y :: r := by cases rest with | nil => simp at hr | cons y r => exact ⟨y, r, rfl⟩
    refine Ev.step (fun k => ?_) (ev_id (ih (out ++ [toY l[i]]) rest (i + 1) (by simp; omega) (by simpa using hr) (by omega)) ?_)
    · simp only [laws_toYarnS.l0, laws_toYarn.f, Option.bind_some]
      rw [if_pos (by omega), if_pos (by omega), if_pos (by simp; omega), rdLY hil, wr (n := (i : Int) + 1) (by omega) (by omega)]
      have : (out ++ y :: rest).set (i : Int).toNat (⟨l[i].f0, l[i].f1, l[i].f2⟩ : IY) = out ++ [toY l[i]] ++ rest := by
        rw [Int.toNat_natCast, List.set_append_right _ _ (by omega), ho]; simp [toY]
      rw [this]; rfl
    · rw [List.drop_eq_getElem_cons hil]; simp only [List.map_cons, List.append_assoc, List.cons_append, List.nil_append]
theorem toYarnS_ev (l : List LY) (hl : (l.length : Int) ≤ 140737488351232) (hl2 : l.length ≤ 46912496118442) : Ev (fun k => laws_toYarnS.f k l) (l.map toY) := by
  unfold laws_toYarnS.f
  have h0 : (0 : Int) ≤ (l.length : Int) := by omega
  have h1 : ((l.length : Int) : Int).toNat ≤ 46912496118442 := by omega
  simp only [if_pos h0, if_pos h1]
  have := toYarnS_loop l hl l.length [] (List.replicate l.length z44) 0 rfl (by simp) (by omega)
  simpa using this
theorem eqYarnS_loop (l : List IY) (hl : (l.length : Int) ≤ 140737488351232) (d : Nat) : ∀ (i : Nat), i + d = l.length → Ev (fun k => laws_eqYarnS.l0 k l l (i : Int)) true := by
  induction d with
  | zero =>
    intro i hi
    refine Ev.step (f := fun _ => some true) (fun k => ?_) (Ev.now _)
    simp only [laws_eqYarnS.l0]; rw [if_neg (by omega)]
  | succ d ih =>
    intro i hi
    refine Ev.step (fun k => ?_) (ih (i + 1) (by omega))
    simp only [laws_eqYarnS.l0, laws_eqYarn.f, if_true, Option.bind_some]
    rw [if_pos (by omega), if_pos (by omega), if_pos (by omega), wr (n := (i : Int) + 1) (by omega) (by omega)]; rfl
theorem eqYarnS_self (l : List IY) (hl : (l.length : Int) ≤ 140737488351232) : Ev (fun k => laws_eqYarnS.f k l l) true := by
  unfold laws_eqYarnS.f
  simp only [if_true]
  exact eqYarnS_loop l hl l.length 0 (by omega)
/-- What a valid yarn is. -/
def vY (x : IY) : Bool := decide ((1 ≤ wrap64 x.f0 ∧ wrap64 x.f0 ≤ 5000) ∧ (-2000 ≤ wrap64 x.f1 ∧ wrap64 x.f1 ≤ 2000) ∧ (1 ≤ wrap64 x.f2 ∧ wrap64 x.f2 ≤ 2000))
theorem vY_spec (x : IY) : spec_l03Yarn.f x.f0 x.f1 x.f2 = some (vY x) := by
  unfold spec_l03Yarn.f vY
  simp only [l00In_f, Option.bind_some, if_dec]
  by_cases h1 : 1 ≤ wrap64 x.f0 ∧ wrap64 x.f0 ≤ 5000 <;> by_cases h2 : -2000 ≤ wrap64 x.f1 ∧ wrap64 x.f1 ≤ 2000 <;> simp [h1, h2]
theorem vY_impl (x : IY) : impl_ValidYarn.f x.f0 x.f1 x.f2 = some (vY x) := by
  unfold impl_ValidYarn.f vY
  simp only [within_f, Option.bind_some, if_dec]
  by_cases h1 : 1 ≤ wrap64 x.f0 ∧ wrap64 x.f0 ≤ 5000 <;> by_cases h2 : -2000 ≤ wrap64 x.f1 ∧ wrap64 x.f1 ≤ 2000 <;> simp [h1, h2]
theorem vYarn_eq : vYarn = vY := by
  funext x
  have h := vYarn_f x
  rw [vY_impl] at h
  exact (Option.some.inj h).symm
/-- The code of yarns. -/
def yCode (l : List IY) (b : Bool) : Int := if l.all vY = true then (if b = true then (if (l.length : Int) > 10 then 3 else 0) else 2) else 1
theorem impl_yCode (l : List IY) (b : Bool) (hl : (l.length : Int) ≤ 140737488351232) : impl_yarnsCode.f l b = some (yCode l b) := by
  unfold impl_yarnsCode.f yCode
  rw [if_pos (by omega), vYarn_eq]
theorem spec_yCode_loop (l : List IY) (b : Bool) (hl : (l.length : Int) ≤ 140737488351232) (d : Nat) : ∀ (i : Nat), i + d = l.length → (∀ x ∈ l.take i, vY x = true) →
    Ev (fun k => spec_l03Asked.l0 k l b (i : Int)) (yCode l b) := by
  induction d with
  | zero =>
    intro i hi ha
    refine Ev.step (f := fun _ => some (yCode l b)) (fun k => ?_) (Ev.now _)
    simp only [spec_l03Asked.l0]
    have : l.all vY = true := by
      rw [List.all_eq_true]; intro x hx; exact ha x (by rw [List.take_of_length_le (by omega)]; exact hx)
    rw [if_neg (by omega)]
    unfold yCode
    rw [if_pos this]
    cases b <;> simp <;> split <;> rfl
  | succ d ih =>
    intro i hi ha
    have hil : i < l.length := by omega
    cases hv : vY l[i] with
    | true =>
      refine Ev.step (fun k => ?_) (ih (i + 1) (by omega) ?_)
      · simp only [spec_l03Asked.l0, rdIY hil, vY_spec, Option.bind_some, hv, if_true]
        rw [if_pos (by omega), if_pos (by omega), wr (n := (i : Int) + 1) (by omega) (by omega)]; rfl
      · intro x hx
        rw [List.take_succ_eq_append_getElem hil] at hx
        rcases List.mem_append.1 hx with h | h
        · exact ha x h
        · simp at h; rw [h]; exact hv
    | false =>
      refine Ev.step (f := fun _ => some (yCode l b)) (fun k => ?_) (Ev.now _)
      simp only [spec_l03Asked.l0, rdIY hil, vY_spec, Option.bind_some, hv]
      rw [if_pos (by omega), if_pos (by omega)]
      have : ¬ l.all vY = true := by
        intro h
        have := List.all_eq_true.1 h l[i] (List.getElem_mem _)
        rw [hv] at this; cases this
      unfold yCode
      rw [if_neg this]; simp
theorem spec_yCode (l : List IY) (b : Bool) (hl : (l.length : Int) ≤ 140737488351232) : Ev (fun k => spec_l03Asked.f k l b) (yCode l b) := by
  unfold spec_l03Asked.f
  exact spec_yCode_loop l b hl l.length 0 (by omega) (by simp)
theorem yCode_zero {l : List IY} {b : Bool} (h : yCode l b = 0) : (∀ x ∈ l, vY x = true) ∧ b = true ∧ l.length ≤ 10 := by
  unfold yCode at h
  by_cases h1 : l.all vY = true
  · rw [if_pos h1] at h
    by_cases h2 : b = true
    · rw [if_pos h2] at h
      by_cases h3 : (l.length : Int) > 10
      · rw [if_pos h3] at h; omega
      · exact ⟨List.all_eq_true.1 h1, h2, by omega⟩
    · rw [if_neg h2] at h; omega
  · rw [if_neg h1] at h; omega
theorem wadd (a b : Int) : wrap64 (wrap64 a + b) = wrap64 (a + b) := by unfold wrap64; omega
theorem wsum (a b : Int) : wrap64 (a + wrap64 b) = wrap64 (a + b) := by unfold wrap64; omega
theorem size_same (a : Int) : spec_l01Size.f a = impl_size.f a := by
  unfold spec_l01Size.f spec_l00Max.f impl_size.f mx
  generalize wrap64 (-a) = w
  by_cases h : a > w
  · rw [if_pos h, if_neg (by omega)]; rfl
  · rw [if_neg h]
    by_cases h2 : a < w
    · rw [if_pos h2]; rfl
    · rw [if_neg h2, show w = a by omega]; rfl
def pCode (l : List IY) (t : Int) : Int := if yCode l (decide (-2000 ≤ t ∧ t ≤ 2000)) = 0 then (if 2 ≤ (l.length : Int) ∧ (l.length : Int) ≤ 6 then 0 else 4) else yCode l (decide (-2000 ≤ t ∧ t ≤ 2000))
theorem spec_pCode (l : List IY) (t : Int) (hl : (l.length : Int) ≤ 140737488351232) : Ev (fun k => spec_l03Plies.f k l t) (pCode l t) := by
  unfold spec_l03Plies.f pCode
  simp only [l00In_f, Option.bind_some, if_dec]
  refine Ev.bind (spec_yCode l _ hl) ?_
  by_cases h : yCode l (decide (-2000 ≤ t ∧ t ≤ 2000)) = 0
  · simp only [h, if_true]
    by_cases h2 : 2 ≤ (l.length : Int) ∧ (l.length : Int) ≤ 6
    · simp only [if_pos h2]; exact Ev.now _
    · simp only [if_neg h2]; exact Ev.now _
  · simp only [if_neg h]; exact Ev.now _
theorem impl_pCode (l : List IY) (t : Int) (hl : (l.length : Int) ≤ 140737488351232) : impl_pliesCode.f l t = some (pCode l t) := by
  unfold impl_pliesCode.f impl_isTurns.f pCode impl_Yarn_80.f
  simp only [within_f, Option.bind_some, if_dec, impl_yCode l _ hl]
  by_cases h : yCode l (decide (-2000 ≤ t ∧ t ≤ 2000)) = 0
  · simp only [h, if_true]
    by_cases h2 : 2 ≤ (l.length : Int) ∧ (l.length : Int) ≤ 6
    · simp only [if_pos h2]
    · simp only [if_neg h2]
  · simp only [if_neg h]
theorem pCode_zero {l : List IY} {t : Int} (h : pCode l t = 0) : (∀ x ∈ l, vY x = true) ∧ (-2000 ≤ t ∧ t ≤ 2000) ∧ 2 ≤ l.length ∧ l.length ≤ 6 := by
  unfold pCode at h
  by_cases h1 : yCode l (decide (-2000 ≤ t ∧ t ≤ 2000)) = 0
  · rw [if_pos h1] at h
    obtain ⟨ha, hb, _⟩ := yCode_zero h1
    by_cases h2 : 2 ≤ (l.length : Int) ∧ (l.length : Int) ≤ 6
    · exact ⟨ha, by simpa using hb, by omega, by omega⟩
    · rw [if_neg h2] at h; omega
  · rw [if_neg h1] at h; exact absurd h h1
theorem min_same (a b : Int) : spec_l00Min.f a b = some (mn a b) := by
  unfold spec_l00Min.f mn
  by_cases h : a < b
  · rw [if_pos h, if_neg (by omega)]
  · rw [if_neg h]
    by_cases h2 : b < a
    · rw [if_pos h2]
    · rw [if_neg h2, show a = b by omega]
theorem plied_loop (l : List IY) (t : Int) (hl : (l.length : Int) ≤ 140737488351232) (d : Nat) : ∀ (i : Nat) (acc : Int), i + d = l.length →
    Same (fun k => spec_l03Plied.l0 k l t acc (i : Int)) (fun k => impl_plyLong.l0 k t acc l (l.length : Int) (i : Int)) := by
  induction d with
  | zero =>
    intro i acc hi
    refine Same.step (f' := fun _ => some (wrap64 (acc - wrap64 (Int.tdiv (mx t (wrap64 (-t))) 50)))) (g' := fun _ => some (wrap64 (acc - wrap64 (Int.tdiv (mx t (wrap64 (-t))) 50)))) (fun k => ?_) (fun k => ?_) (Same.now _)
    · simp only [spec_l03Plied.l0, size_same, impl_size.f, Option.bind_some]; rw [if_neg (by omega)]
    · simp only [impl_plyLong.l0, impl_size.f, Option.bind_some]; rw [if_neg (by omega)]
  | succ d ih =>
    intro i acc hi
    have hil : i < l.length := by omega
    refine Same.step (fun k => ?_) (fun k => ?_) (ih (i + 1) (mn acc (wrap64 l[i].f0)) (by omega))
    · simp only [spec_l03Plied.l0, rdIY hil, min_same, Option.bind_some]
      rw [if_pos (by omega), if_pos (by omega), wr (n := (i : Int) + 1) (by omega) (by omega)]; rfl
    · simp only [impl_plyLong.l0, rdIY hil]
      rw [if_pos (by omega), if_pos (by omega), if_pos (by omega), wr (n := (i : Int) + 1) (by omega) (by omega)]; rfl
theorem plied_same (l : List IY) (t : Int) (h1 : ∀ x ∈ l, vY x = true) (h2 : 2 ≤ l.length) (h3 : l.length ≤ 6) : Same (fun k => spec_l03Plied.f k l t) (fun k => impl_plyLong.f k l t) := by
  have hv := h1 l[0] (List.getElem_mem _)
  unfold vY at hv
  have hv' := of_decide_eq_true hv
  have h := plied_loop l t (by omega) (l.length - 1) 1 (wrap64 l[0].f0) (by omega)
  have hr : rd_T44 l 0 = l[0] := rdIY (i := 0) (by omega)
  unfold spec_l03Plied.f impl_plyLong.f
  rw [hr]
  have h0 : (0 : Int) < (l.length : Int) := by omega
  simp only [if_pos h0]
  refine Same.right (fun k => ?_) h
  have hm : mn 5000 (wrap64 l[0].f0) = wrap64 l[0].f0 := by unfold mn; split <;> omega
  simp only [impl_plyLong.l0, hr]
  rw [if_pos h0, if_pos (by omega), if_pos h0, hm, wr (n := 0 + 1) (by omega) (by omega)]; rfl
def sumL (l : List IY) : Int := (l.map fun x => x.f0).sum
def sumT (l : List IY) : Int := (l.map fun x => x.f1).sum
def sumG (l : List IY) : Int := (l.map fun x => x.f2).sum
theorem sum_cons (l : List IY) (i : Nat) (h : i < l.length) : sumL (l.drop i) = l[i].f0 + sumL (l.drop (i + 1)) ∧ sumT (l.drop i) = l[i].f1 + sumT (l.drop (i + 1)) ∧ sumG (l.drop i) = l[i].f2 + sumG (l.drop (i + 1)) := by
  unfold sumL sumT sumG
  rw [List.drop_eq_getElem_cons h]; simp only [List.map_cons, List.sum_cons, and_self]
theorem make_same (a b c : Int) : spec_l03Make.f a b c = impl_makeYarn.f a b c := by
  unfold spec_l03Make.f impl_makeYarn.f
  simp only [l00In_f, within_f, Option.bind_some]
theorem impl_sums_loop (l : List IY) (hl : (l.length : Int) ≤ 140737488351232) (d : Nat) : ∀ (i : Nat) (a b c : Int), i + d = l.length →
    Ev (fun k => impl_sums.l0 k (wrap64 a) (wrap64 b) (wrap64 c) l (l.length : Int) (i : Int)) (wrap64 (a + sumL (l.drop i)), wrap64 (b + sumT (l.drop i)), wrap64 (c + sumG (l.drop i))) := by
  induction d with
  | zero =>
    intro i a b c hi
    refine Ev.step (f := fun _ => some (wrap64 a, wrap64 b, wrap64 c)) (fun k => ?_) (ev_id (Ev.now _) ?_)
    · simp only [impl_sums.l0]; rw [if_neg (by omega)]
    · rw [List.drop_eq_nil_of_le (by omega)]; simp [sumL, sumT, sumG]
  | succ d ih =>
    intro i a b c hi
    have hil : i < l.length := by omega
    obtain ⟨s1, s2, s3⟩ := sum_cons l i hil
    refine Ev.step (fun k => ?_) (ev_id (ih (i + 1) (a + l[i].f0) (b + l[i].f1) (c + l[i].f2) (by omega)) ?_)
    · simp only [impl_sums.l0, rdIY hil]
      rw [if_pos (by omega), if_pos (by omega), if_pos (by omega), wr (n := (i : Int) + 1) (by omega) (by omega), wsum, wadd, wsum, wadd, wsum, wadd]; rfl
    · rw [s1, s2, s3]; simp only [Int.add_assoc]
theorem impl_sums_ev (l : List IY) (hl : (l.length : Int) ≤ 140737488351232) : Ev (fun k => impl_sums.f k l) (wrap64 (sumL l), wrap64 (sumT l), wrap64 (sumG l)) := by
  unfold impl_sums.f
  have := impl_sums_loop l hl l.length 0 0 0 0 (by omega)
  simpa [w00] using this
def finP (o : Option (Int × Int × Int × Bool)) : Option (Int × Int × Int × Int) := o.bind fun bt => if bt.2.2.2 = true then some (bt.1, bt.2.1, bt.2.2.1, 0) else some (0, 0, 0, 4)
theorem finP_some (a b c : Int) : ∃ r, finP (impl_makeYarn.f a b c) = some r := by
  unfold impl_makeYarn.f
  simp only [within_f, Option.bind_some, if_dec]
  by_cases h1 : 1 ≤ a ∧ a ≤ 5000 <;> by_cases h2 : -2000 ≤ b ∧ b ≤ 2000 <;> by_cases h3 : 1 ≤ c ∧ c ≤ 2000 <;> simp [h1, h2, h3, finP]
theorem spec_ply_loop (l : List IY) (t x7 : Int) (hl : (l.length : Int) ≤ 140737488351232) (r : Int × Int × Int × Int) (hr : finP (spec_l03Make.f x7 t (wrap64 (sumG l))) = some r) (d : Nat) : ∀ (i : Nat) (c : Int), i + d = l.length → c + sumG (l.drop i) = sumG l →
    Ev (fun k => spec_PlyYarns.l0 k l t x7 (wrap64 c) (i : Int)) r := by
  induction d with
  | zero =>
    intro i c hi hc
    refine Ev.step (f := fun _ => some r) (fun k => ?_) (Ev.now _)
    rw [List.drop_eq_nil_of_le (by omega)] at hc
    have hc' : c = sumG l := by simpa [sumG] using hc
    simp only [spec_PlyYarns.l0]
    rw [if_neg (by omega), hc']
    exact hr
  | succ d ih =>
    intro i c hi hc
    have hil : i < l.length := by omega
    obtain ⟨_, _, s3⟩ := sum_cons l i hil
    refine Ev.step (fun k => ?_) (ih (i + 1) (c + l[i].f2) (by omega) (by omega))
    simp only [spec_PlyYarns.l0, rdIY hil]
    rw [if_pos (by omega), if_pos (by omega), wr (n := (i : Int) + 1) (by omega) (by omega), wsum, wadd]; rfl
theorem PlyYarns_same (l : List IY) (t : Int) (hl : (l.length : Int) ≤ 140737488351232) : Same (fun k => spec_PlyYarns.f k l t) (fun k => impl_PlyYarns.f k l t) := by
  unfold spec_PlyYarns.f impl_PlyYarns.f impl_PlyLong.f
  simp only [impl_pCode l t hl, Option.bind_some]
  by_cases hc : pCode l t = 0
  · obtain ⟨h1, h2, h3, h4⟩ := pCode_zero hc
    obtain ⟨r, e1, e2⟩ := plied_same l t h1 h3 h4
    simp only [hc, if_true]
    by_cases hr : r < 1
    · refine ⟨(0, 0, 0, 6), Ev.bind (spec_pCode l t hl) (by simp only [hc, if_true]; exact Ev.bind e1 (by simp only [if_pos hr]; exact Ev.now _)), Ev.bind (a := (0, 6)) (Ev.bind e2 (by simp only [if_pos hr]; exact Ev.now _)) ?_⟩
      simp only [show ¬ ((6 : Int) = 0) by omega, if_false]; exact Ev.now _
    · obtain ⟨q, hq⟩ := finP_some r t (wrap64 (sumG l))
      have hs := spec_ply_loop l t r hl q (by rw [make_same]; exact hq) l.length 0 0 (by omega) (by simp)
      have hs2 : Ev (fun k => spec_PlyYarns.l0 k l t r 0 0) q := by simpa [w00] using hs
      refine ⟨q, Ev.bind (spec_pCode l t hl) (by simp only [hc, if_true]; exact Ev.bind e1 (by simp only [if_neg hr]; exact hs2)), Ev.bind (a := (r, 0)) (Ev.bind e2 (by simp only [if_neg hr]; exact Ev.now _)) ?_⟩
      · simp only [if_true]
        refine Ev.bind (impl_sums_ev l hl) ?_
        exact ev_const hq
  · simp only [if_neg hc]
    refine ⟨(0, 0, 0, pCode l t), Ev.bind (spec_pCode l t hl) (by simp only [if_neg hc]; exact Ev.now _), ?_⟩
    simp only [Option.bind_some, if_neg hc]; exact Ev.now _
theorem FnExactPlyYarns : laws_FnExactPlyYarns.Pure := by
  intro l t ⟨hl, _⟩ _
  refine Ev.rounds ?_
  unfold laws_FnExactPlyYarns.f
  rw [szYarn_f l 1048576 (by omega) (by omega)]
  simp only [Option.bind_some]
  by_cases h : (l.length : Int) ≤ 1048576
  · have hneg : ¬ (1048576 - (l.length : Int) < 0) := by omega
    simp only [if_pos h, if_neg hneg]
    have hm : ((l.map toY).length : Int) ≤ 140737488351232 := by simp; omega
    obtain ⟨⟨r1, r2, r3, r4⟩, h1, h2⟩ := PlyYarns_same (l.map toY) t hm
    have ht := toYarnS_ev l (by omega) (by omega)
    refine Ev.bind ht (Ev.bind h1 (Ev.bind ht (Ev.bind h2 ?_)))
    simp only [laws_eqYarn.f, if_true, Option.bind_some, bne_self_eq_false]
    refine Ev.step (fun k => by simp only [laws_FnExactPlyYarns.j0, Bool.false_eq_true, if_false]; rfl) (Ev.bind ht (Ev.bind (eqYarnS_self _ hm) ?_))
    simp only [if_true]; exact Ev.now _
  · simp only [if_neg h, show ((-1 : Int) < 0) from by omega, if_true]; exact Ev.now _
end Go.Proofs.Ytppmdfcfbldmjaa.Pure
