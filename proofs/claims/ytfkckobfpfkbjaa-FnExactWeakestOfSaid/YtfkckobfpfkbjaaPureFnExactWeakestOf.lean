/- The program's WeakestOf and the reference's give the same answer at all yarns; no conditions. -/
import Derived.Test.YtfkckobfpfkbjaaXFnExactWeakestOfx6
namespace Go.Proofs.Ytfkckobfpfkbjaa.Pure
open Go.RowKit Go.Proofs.Ytfkckobfpfkbjaa.XFnExactWeakestOf Go.Proofs.YtfkckobfpfkbjaaW.PrintWords Go.Proofs.YtfkckobfpfkbjaaW.PrintLast
set_option linter.unusedVariables false
set_option linter.unusedSimpArgs false
theorem wr {n : Int} (h0 : -9223372036854775808 ≤ n) (h1 : n ≤ 9223372036854775807) : wrap64 n = n := by
  unfold wrap64; omega
theorem wf64 {a : Int} (h : (Lit.int .i64 a).wf = true) : -9223372036854775808 ≤ a ∧ a ≤ 9223372036854775807 := by
  simp only [Lit.wf, IntKind.min, IntKind.max, IntKind.signed, IntKind.bits, Bool.and_eq_true, decide_eq_true_eq, if_true] at h
  omega
theorem ev_id {α : Type} {g : Nat → Option α} {r s : α} (h : Ev g r) (e : r = s) : Ev g s := e ▸ h
theorem ev_const {α : Type} {o : Option α} {r : α} (h : o = some r) : Ev (fun _ => o) r := ⟨0, fun _ _ => h⟩
theorem ev_fun {α : Type} {g : Nat → Option α} {r s : α} (h : Ev g r) (k : Ev g s) : r = s := by
  obtain ⟨a, h⟩ := h
  obtain ⟨b, k⟩ := k
  have x := h (max a b) (by omega)
  have y := k (max a b) (by omega)
  rw [x] at y; exact Option.some.inj y
/-- Both come to one answer. -/
def Same {α : Type} (g f : Nat → Option α) : Prop := ∃ r, Ev g r ∧ Ev f r
theorem Same.step {α : Type} {g f g' f' : Nat → Option α} (hg : ∀ k, g (k + 1) = g' k) (hf : ∀ k, f (k + 1) = f' k) (h : Same g' f') : Same g f := by
  obtain ⟨r, a, b⟩ := h
  exact ⟨r, Ev.step hg a, Ev.step hf b⟩
theorem Same.left {α : Type} {g f g' : Nat → Option α} (hg : ∀ k, g (k + 1) = g' k) (h : Same g' f) : Same g f := by
  obtain ⟨r, a, b⟩ := h
  exact ⟨r, Ev.step hg a, b⟩
theorem Same.right {α : Type} {g f f' : Nat → Option α} (hf : ∀ k, f (k + 1) = f' k) (h : Same g f') : Same g f := by
  obtain ⟨r, a, b⟩ := h
  exact ⟨r, a, Ev.step hf b⟩
theorem Same.now {α : Type} (r : α) : Same (fun _ => some r) (fun _ => some r) := ⟨r, Ev.now r, Ev.now r⟩
theorem if_dec {α : Type} {p : Prop} [Decidable p] (a b : α) : (if decide p = true then a else b) = if p then a else b := by
  by_cases h : p <;> simp [h]
theorem w00 : wrap64 0 = 0 := wr (by omega) (by omega)
theorem l00In_f (a b c : Int) : spec_l00In.f a b c = some (decide (b ≤ a ∧ a ≤ c)) := by
  unfold spec_l00In.f
  by_cases h : b ≤ a <;> simp [h]
theorem within_f (a b c : Int) : impl_within.f a b c = some (decide (b ≤ a ∧ a ≤ c)) := by
  unfold impl_within.f
  by_cases h : b ≤ a <;> simp [h]
abbrev LY := S109
abbrev IY := S106
def toY (x : LY) : IY := ⟨x.f0, x.f1, x.f2⟩
theorem rdIY {l : List IY} {i : Nat} (h : i < l.length) : rd_T106 l (i : Int) = l[i] := by
  unfold rd_T106; simp [List.getD, h]
theorem rdLY {l : List LY} {i : Nat} (h : i < l.length) : rd_T109 l (i : Int) = l[i] := by
  unfold rd_T109; simp [List.getD, h]
theorem szYarn_f (l : List LY) (n : Int) (h0 : (l.length : Int) ≤ 140737488351232) (hn : 0 ≤ n ∧ n ≤ 1048576) : laws_szYarnS.f l n = some (if (l.length : Int) ≤ n then n - l.length else -1) := by
  unfold laws_szYarnS.f
  rw [wr (by omega) (by omega)]
  by_cases h : (l.length : Int) ≤ n
  · rw [if_neg (by omega), if_pos h]
  · rw [if_pos (by omega), if_neg h]
theorem toYarnS_loop (l : List LY) (hl : (l.length : Int) ≤ 140737488351232) (d : Nat) : ∀ (out rest : List IY) (i : Nat), out.length = i → rest.length = d → i + d = l.length →
    Ev (fun k => laws_toYarnS.l0 k l (out ++ rest) (i : Int)) (out ++ (l.drop i).map toY) := by
  induction d with
  | zero =>
    intro out rest i ho hr hi
    refine Ev.step (f := fun _ => some (out ++ (l.drop i).map toY)) (fun k => ?_) (Ev.now _)
    simp only [laws_toYarnS.l0]
    rw [if_neg (by omega), List.drop_eq_nil_of_le (by omega), List.length_eq_zero_iff.1 hr]; simp
  | succ d ih =>
    intro out rest i ho hr hi
    have hil : i < l.length := by omega
    obtain ⟨y, rest, rfl⟩ : ∃ y r, rest = y :: r := by cases rest with | nil => simp at hr | cons y r => exact ⟨y, r, rfl⟩
    refine Ev.step (fun k => ?_) (ev_id (ih (out ++ [toY l[i]]) rest (i + 1) (by simp; omega) (by simpa using hr) (by omega)) ?_)
    · simp only [laws_toYarnS.l0, laws_toYarn.f, Option.bind_some]
      rw [if_pos (by omega), if_pos (by omega), if_pos (by simp; omega), rdLY hil, wr (n := (i : Int) + 1) (by omega) (by omega)]
      have : (out ++ y :: rest).set (i : Int).toNat (⟨l[i].f0, l[i].f1, l[i].f2⟩ : IY) = out ++ [toY l[i]] ++ rest := by
        rw [Int.toNat_natCast, List.set_append_right _ _ (by omega), ho]; simp [toY]
      rw [this]; rfl
    · rw [List.drop_eq_getElem_cons hil]; simp only [List.map_cons, List.append_assoc, List.cons_append, List.nil_append]
theorem toYarnS_ev (l : List LY) (hl : (l.length : Int) ≤ 140737488351232) (hl2 : l.length ≤ 46912496118442) : Ev (fun k => laws_toYarnS.f k l) (l.map toY) := by
  unfold laws_toYarnS.f
  have h0 : (0 : Int) ≤ (l.length : Int) := by omega
  have h1 : ((l.length : Int) : Int).toNat ≤ 46912496118442 := by omega
  simp only [if_pos h0, if_pos h1]
  have := toYarnS_loop l hl l.length [] (List.replicate l.length z106) 0 rfl (by simp) (by omega)
  simpa using this
theorem eqYarnS_loop (l : List IY) (hl : (l.length : Int) ≤ 140737488351232) (d : Nat) : ∀ (i : Nat), i + d = l.length → Ev (fun k => laws_eqYarnS.l0 k l l (i : Int)) true := by
  induction d with
  | zero =>
    intro i hi
    refine Ev.step (f := fun _ => some true) (fun k => ?_) (Ev.now _)
    simp only [laws_eqYarnS.l0]; rw [if_neg (by omega)]
  | succ d ih =>
    intro i hi
    refine Ev.step (fun k => ?_) (ih (i + 1) (by omega))
    simp only [laws_eqYarnS.l0, laws_eqYarn.f, if_true, Option.bind_some]
    rw [if_pos (by omega), if_pos (by omega), if_pos (by omega), wr (n := (i : Int) + 1) (by omega) (by omega)]; rfl
theorem eqYarnS_self (l : List IY) (hl : (l.length : Int) ≤ 140737488351232) : Ev (fun k => laws_eqYarnS.f k l l) true := by
  unfold laws_eqYarnS.f
  simp only [if_true]
  exact eqYarnS_loop l hl l.length 0 (by omega)
/-- What a valid yarn is. -/
def vY (x : IY) : Bool := decide ((1 ≤ wrap64 x.f0 ∧ wrap64 x.f0 ≤ 5000) ∧ (-2000 ≤ wrap64 x.f1 ∧ wrap64 x.f1 ≤ 2000) ∧ (1 ≤ wrap64 x.f2 ∧ wrap64 x.f2 ≤ 2000))
theorem vY_spec (x : IY) : spec_l03Yarn.f x.f0 x.f1 x.f2 = some (vY x) := by
  unfold spec_l03Yarn.f vY
  simp only [l00In_f, Option.bind_some, if_dec]
  by_cases h1 : 1 ≤ wrap64 x.f0 ∧ wrap64 x.f0 ≤ 5000 <;> by_cases h2 : -2000 ≤ wrap64 x.f1 ∧ wrap64 x.f1 ≤ 2000 <;> simp [h1, h2]
theorem vY_impl (x : IY) : impl_ValidYarn.f x.f0 x.f1 x.f2 = some (vY x) := by
  unfold impl_ValidYarn.f vY
  simp only [within_f, Option.bind_some, if_dec]
  by_cases h1 : 1 ≤ wrap64 x.f0 ∧ wrap64 x.f0 ≤ 5000 <;> by_cases h2 : -2000 ≤ wrap64 x.f1 ∧ wrap64 x.f1 ≤ 2000 <;> simp [h1, h2]
theorem vYarn_eq : vYarn = vY := by
  funext x
  have h := vYarn_f x
  rw [vY_impl] at h
  exact (Option.some.inj h).symm
/-- The code of yarns. -/
def yCode (l : List IY) (b : Bool) : Int := if l.all vY = true then (if b = true then (if (l.length : Int) > 10 then 3 else 0) else 2) else 1
theorem impl_yCode (l : List IY) (b : Bool) (hl : (l.length : Int) ≤ 140737488351232) : impl_yarnsCode.f l b = some (yCode l b) := by
  unfold impl_yarnsCode.f yCode
  rw [if_pos (by omega), vYarn_eq]
theorem spec_yCode_loop (l : List IY) (b : Bool) (hl : (l.length : Int) ≤ 140737488351232) (d : Nat) : ∀ (i : Nat), i + d = l.length → (∀ x ∈ l.take i, vY x = true) →
    Ev (fun k => spec_l03Asked.l0 k l b (i : Int)) (yCode l b) := by
  induction d with
  | zero =>
    intro i hi ha
    refine Ev.step (f := fun _ => some (yCode l b)) (fun k => ?_) (Ev.now _)
    simp only [spec_l03Asked.l0]
    have : l.all vY = true := by
      rw [List.all_eq_true]; intro x hx; exact ha x (by rw [List.take_of_length_le (by omega)]; exact hx)
    rw [if_neg (by omega)]
    unfold yCode
    rw [if_pos this]
    cases b <;> simp <;> split <;> rfl
  | succ d ih =>
    intro i hi ha
    have hil : i < l.length := by omega
    cases hv : vY l[i] with
    | true =>
      refine Ev.step (fun k => ?_) (ih (i + 1) (by omega) ?_)
      · simp only [spec_l03Asked.l0, rdIY hil, vY_spec, Option.bind_some, hv, if_true]
        rw [if_pos (by omega), if_pos (by omega), wr (n := (i : Int) + 1) (by omega) (by omega)]; rfl
      · intro x hx
        rw [List.take_succ_eq_append_getElem hil] at hx
        rcases List.mem_append.1 hx with h | h
        · exact ha x h
        · simp at h; rw [h]; exact hv
    | false =>
      refine Ev.step (f := fun _ => some (yCode l b)) (fun k => ?_) (Ev.now _)
      simp only [spec_l03Asked.l0, rdIY hil, vY_spec, Option.bind_some, hv]
      rw [if_pos (by omega), if_pos (by omega)]
      have : ¬ l.all vY = true := by
        intro h
        have := List.all_eq_true.1 h l[i] (List.getElem_mem _)
        rw [hv] at this; cases this
      unfold yCode
      rw [if_neg this]; simp
theorem spec_yCode (l : List IY) (b : Bool) (hl : (l.length : Int) ≤ 140737488351232) : Ev (fun k => spec_l03Asked.f k l b) (yCode l b) := by
  unfold spec_l03Asked.f
  exact spec_yCode_loop l b hl l.length 0 (by omega) (by simp)
theorem yCode_zero {l : List IY} {b : Bool} (h : yCode l b = 0) : (∀ x ∈ l, vY x = true) ∧ b = true ∧ l.length ≤ 10 := by
  unfold yCode at h
  by_cases h1 : l.all vY = true
  · rw [if_pos h1] at h
    by_cases h2 : b = true
    · rw [if_pos h2] at h
      by_cases h3 : (l.length : Int) > 10
      · rw [if_pos h3] at h; omega
      · exact ⟨List.all_eq_true.1 h1, h2, by omega⟩
    · rw [if_neg h2] at h; omega
  · rw [if_neg h1] at h; omega
theorem wadd (a b : Int) : wrap64 (wrap64 a + b) = wrap64 (a + b) := by unfold wrap64; omega
theorem wsum (a b : Int) : wrap64 (a + wrap64 b) = wrap64 (a + b) := by unfold wrap64; omega
theorem tmod_nat (m n : Nat) : Int.tmod (m : Int) (n : Int) = ((m % n : Nat) : Int) := by
  rw [Int.tmod_eq_emod_of_nonneg (by omega), Int.natCast_emod]
theorem common_ev (n : Nat) : ∀ m : Nat, Ev (fun k => spec_l01Common.l0 k (m : Int) (n : Int)) ((Nat.gcd n m : Nat) : Int) := by
  induction n using Nat.strongRecOn with
  | _ n ih =>
    intro m
    by_cases h : n = 0
    · subst h
      refine Ev.step (f := fun _ => some (m : Int)) (fun k => ?_) (ev_id (Ev.now _) (by simp))
      simp only [spec_l01Common.l0]; rw [if_neg (by omega)]
    · refine Ev.step (fun k => ?_) (ev_id (ih (m % n) (Nat.mod_lt _ (by omega)) n) (by rw [Nat.gcd_rec n m]))
      simp only [spec_l01Common.l0, tmod_nat]
      rw [if_pos (by omega), if_neg (by omega)]
theorem divisor_ev (n : Nat) : ∀ m : Nat, Ev (fun k => impl_divisor.l0 k (m : Int) (n : Int)) ((Nat.gcd n m : Nat) : Int) := by
  induction n using Nat.strongRecOn with
  | _ n ih =>
    intro m
    by_cases h : n = 0
    · subst h
      refine Ev.step (f := fun _ => some (m : Int)) (fun k => ?_) (ev_id (Ev.now _) (by simp))
      simp only [impl_divisor.l0]; rw [if_pos (by rfl)]
    · refine Ev.step (fun k => ?_) (ev_id (ih (m % n) (Nat.mod_lt _ (by omega)) n) (by rw [Nat.gcd_rec n m]))
      simp only [impl_divisor.l0, tmod_nat]
      rw [if_neg (by omega)]
/-- A fraction in its lowest terms. -/
def fr1 (L G : Nat) : Int := ((L / Nat.gcd G L : Nat) : Int)
def fr2 (L G : Nat) : Int := ((G / Nat.gcd G L : Nat) : Int)
theorem tdiv_nat (m n : Nat) : Int.tdiv (m : Int) (n : Int) = ((m / n : Nat) : Int) := by
  rw [Int.tdiv_eq_ediv_of_nonneg (by omega), Int.natCast_ediv]
theorem wrN (n : Nat) (h : n ≤ 5000) : wrap64 (n : Int) = (n : Int) := wr (by omega) (by omega)
theorem specFrac_ev (L G : Nat) (hL : 1 ≤ L ∧ L ≤ 5000) (hG : 1 ≤ G ∧ G ≤ 2000) : Ev (fun k => spec_l03Ratio.f k (L : Int) (G : Int)) (fr1 L G, fr2 L G) := by
  unfold spec_l03Ratio.f spec_l01Make.f spec_l00Max.f spec_l01Common.f
  have w : wrap64 (-(L : Int)) = -(L : Int) := wr (by omega) (by omega)
  have hm : (L : Int) > -(L : Int) := by omega
  have hg : 0 < Nat.gcd G L := Nat.gcd_pos_of_pos_left _ (by omega)
  have hne : ¬ ((Nat.gcd G L : Nat) : Int) = 0 := by omega
  have b1 : L / Nat.gcd G L ≤ L := Nat.div_le_self _ _
  have b2 : G / Nat.gcd G L ≤ G := Nat.div_le_self _ _
  simp only [w, if_pos hm, Option.bind_some]
  have e : Ev (fun k => (spec_l01Common.l0 k (L : Int) (G : Int)).bind fun t109 => if t109 = 0 then none else some (wrap64 (Int.tdiv (L : Int) t109), wrap64 (Int.tdiv (G : Int) t109))) (fr1 L G, fr2 L G) := by
    refine Ev.bind (common_ev G L) ?_
    simp only [if_neg hne, tdiv_nat]
    rw [wrN (L / Nat.gcd G L) (Nat.le_trans b1 hL.2), wrN (G / Nat.gcd G L) (Nat.le_trans b2 (Nat.le_trans hG.2 (by decide)))]
    exact Ev.now _
  exact Ev.bind e (Ev.now _)
theorem implFrac_ev (L G : Nat) (t : Int) (hL : 1 ≤ L ∧ L ≤ 5000) (hG : 1 ≤ G ∧ G ≤ 2000) : Ev (fun k => impl_Yarn_count.f k (L : Int) t (G : Int)) (fr1 L G, fr2 L G) := by
  unfold impl_Yarn_count.f impl_fraction.f impl_divisor.f impl_size.f
  have w : wrap64 (-(L : Int)) = -(L : Int) := wr (by omega) (by omega)
  have w2 : wrap64 (-(G : Int)) = -(G : Int) := wr (by omega) (by omega)
  have w3 : wrap64 (L : Int) = (L : Int) := wr (by omega) (by omega)
  have w4 : wrap64 (G : Int) = (G : Int) := wr (by omega) (by omega)
  have m1 : mx (L : Int) (-(L : Int)) = (L : Int) := by unfold mx; split <;> omega
  have m2 : mx (G : Int) (-(G : Int)) = (G : Int) := by unfold mx; split <;> omega
  have hn : ¬ (G : Int) < 0 := by omega
  have hg : 0 < Nat.gcd G L := Nat.gcd_pos_of_pos_left _ (by omega)
  have hne : ¬ ((Nat.gcd G L : Nat) : Int) = 0 := by omega
  have b1 : L / Nat.gcd G L ≤ L := Nat.div_le_self _ _
  have b2 : G / Nat.gcd G L ≤ G := Nat.div_le_self _ _
  simp only [w, w2, w3, w4, m1, m2, Option.bind_some, if_neg hn]
  have e : Ev (fun k => (impl_divisor.l0 k (L : Int) (G : Int)).bind fun t141 => if t141 = 0 then none else some (wrap64 (Int.tdiv (L : Int) t141), wrap64 (Int.tdiv (G : Int) t141))) (fr1 L G, fr2 L G) := by
    refine Ev.bind (divisor_ev G L) ?_
    simp only [if_neg hne, tdiv_nat]
    rw [wrN (L / Nat.gcd G L) (Nat.le_trans b1 hL.2), wrN (G / Nat.gcd G L) (Nat.le_trans b2 (Nat.le_trans hG.2 (by decide)))]
    exact Ev.now _
  exact Ev.bind e (Ev.now _)
theorem cross {L G A B : Nat} (hL : 1 ≤ L ∧ L ≤ 5000) (hG : 1 ≤ G ∧ G ≤ 2000) (hA : 1 ≤ A ∧ A ≤ 5000) (hB : 1 ≤ B ∧ B ≤ 2000) :
    (wrap64 (fr1 L G * fr2 A B) > wrap64 (fr1 A B * fr2 L G)) ↔ (wrap64 ((L : Int) * (B : Int)) > wrap64 ((A : Int) * (G : Int))) := by
  have g1 : 0 < Nat.gcd G L := Nat.gcd_pos_of_pos_left _ (by omega)
  have g2 : 0 < Nat.gcd B A := Nat.gcd_pos_of_pos_left _ (by omega)
  obtain ⟨x, hx⟩ := Nat.gcd_dvd_right G L
  obtain ⟨y, hy⟩ := Nat.gcd_dvd_left G L
  obtain ⟨u, hu⟩ := Nat.gcd_dvd_right B A
  obtain ⟨v, hv⟩ := Nat.gcd_dvd_left B A
  have f1 : fr1 L G = (x : Int) := by unfold fr1; congr 1; exact Nat.div_eq_of_eq_mul_right g1 hx
  have f2 : fr2 L G = (y : Int) := by unfold fr2; congr 1; exact Nat.div_eq_of_eq_mul_right g1 hy
  have f3 : fr1 A B = (u : Int) := by unfold fr1; congr 1; exact Nat.div_eq_of_eq_mul_right g2 hu
  have f4 : fr2 A B = (v : Int) := by unfold fr2; congr 1; exact Nat.div_eq_of_eq_mul_right g2 hv
  have bound : ∀ a b : Nat, a ≤ 5000 → b ≤ 5000 → wrap64 ((a : Int) * (b : Int)) = ((a * b : Nat) : Int) := by
    intro a b ha hb
    have : a * b ≤ 5000 * 5000 := Nat.mul_le_mul ha hb
    rw [← Int.natCast_mul]
    exact wr (by omega) (by omega)
  have le : ∀ {p q r : Nat}, 0 < p → r = p * q → r ≤ 5000 → q ≤ 5000 := by
    intro p q r h e b
    have : q ≤ p * q := Nat.le_mul_of_pos_left q h
    omega
  have bx := le g1 hx (by omega)
  have by_ := le g1 hy (by omega)
  have bu := le g2 hu (by omega)
  have bv := le g2 hv (by omega)
  rw [f1, f2, f3, f4, bound x v bx bv, bound u y bu by_, bound L B (by omega) (by omega), bound A G (by omega) (by omega)]
  generalize Nat.gcd G L = g at *
  generalize Nat.gcd B A = h at *
  have e1 : L * B = (g * h) * (x * v) := by rw [hx, hv]; ac_rfl
  have e2 : A * G = (g * h) * (u * y) := by rw [hu, hy]; ac_rfl
  rw [e1, e2]
  have gp : 0 < g * h := Nat.mul_pos g1 g2
  constructor
  · intro z
    have z' : u * y < x * v := by omega
    have := Nat.mul_lt_mul_of_pos_left z' gp
    omega
  · intro z
    have z' : g * h * (u * y) < g * h * (x * v) := by omega
    have := Nat.lt_of_mul_lt_mul_left z'
    omega
theorem vY_nat {x : IY} (h : vY x = true) (h0 : -32768 ≤ x.f0 ∧ x.f0 ≤ 32767) (h2 : -32768 ≤ x.f2 ∧ x.f2 ≤ 32767) : ∃ L G : Nat, x.f0 = (L : Int) ∧ x.f2 = (G : Int) ∧ (1 ≤ L ∧ L ≤ 5000) ∧ (1 ≤ G ∧ G ≤ 2000) := by
  unfold vY at h
  have z := of_decide_eq_true h
  rw [wr (n := x.f0) (by omega) (by omega), wr (n := x.f2) (by omega) (by omega)] at z
  exact ⟨x.f0.toNat, x.f2.toNat, by omega, by omega, by omega, by omega⟩
def OkY (l : List IY) : Prop := ∀ x ∈ l, ∃ L G : Nat, x.f0 = (L : Int) ∧ x.f2 = (G : Int) ∧ (1 ≤ L ∧ L ≤ 5000) ∧ (1 ≤ G ∧ G ≤ 2000)
theorem weak_end (l : List IY) (hl : l.length ≤ 10) (ho : OkY l) (b : Nat) (hb : b < l.length) (i : Nat) (hi : i = l.length) :
    Same (fun k => spec_WeakestOf.l0 k l (b : Int) (i : Int)) (fun k => impl_WeakestOf.l0 k l (b : Int) l (l.length : Int) (i : Int)) := by
  obtain ⟨L, G, e1, e2, hL, hG⟩ := ho l[b] (List.getElem_mem _)
  have c1 : (0 : Int) ≤ (b : Int) := by omega
  have c2 : (b : Int) < (l.length : Int) := by omega
  have w1 : wrap64 (L : Int) = (L : Int) := wr (by omega) (by omega)
  have w2 : wrap64 (G : Int) = (G : Int) := wr (by omega) (by omega)
  refine ⟨((b : Int), fr1 L G, fr2 L G, 0), ?_, ?_⟩
  · refine Ev.step (fun k => by simp only [spec_WeakestOf.l0, rdIY hb, e1, e2, w1, w2]; rw [if_neg (by omega), if_pos c1, if_pos c2]) ?_
    exact Ev.bind (specFrac_ev L G hL hG) (Ev.now _)
  · refine Ev.step (fun k => by simp only [impl_WeakestOf.l0, rdIY hb, e1, e2]; rw [if_neg (by omega), if_pos c1, if_pos c2]) ?_
    exact Ev.bind (implFrac_ev L G _ hL hG) (Ev.now _)
theorem weak_loop (l : List IY) (hl : l.length ≤ 10) (ho : OkY l) (d : Nat) : ∀ (i b : Nat), i + d = l.length → b < l.length →
    Same (fun k => spec_WeakestOf.l0 k l (b : Int) (i : Int)) (fun k => impl_WeakestOf.l0 k l (b : Int) l (l.length : Int) (i : Int)) := by
  induction d with
  | zero => intro i b hi hb; exact weak_end l hl ho b hb i (by omega)
  | succ d ih =>
    intro i b hi hb
    have hil : i < l.length := by omega
    obtain ⟨L, G, e1, e2, hL, hG⟩ := ho l[i] (List.getElem_mem _)
    obtain ⟨A, B, e3, e4, hA, hB⟩ := ho l[b] (List.getElem_mem _)
    have c1 : (0 : Int) ≤ (b : Int) := by omega
    have c2 : (b : Int) < (l.length : Int) := by omega
    have c3 : (0 : Int) ≤ (i : Int) := by omega
    have c4 : (i : Int) < (l.length : Int) := by omega
    have w1 : wrap64 (L : Int) = (L : Int) := wr (by omega) (by omega)
    have w2 : wrap64 (G : Int) = (G : Int) := wr (by omega) (by omega)
    have w3 : wrap64 (A : Int) = (A : Int) := wr (by omega) (by omega)
    have w4 : wrap64 (B : Int) = (B : Int) := wr (by omega) (by omega)
    have w5 : wrap64 ((i : Int) + 1) = ((i + 1 : Nat) : Int) := by rw [wr (by omega) (by omega)]; omega
    have x := cross hL hG hA hB
    by_cases hc : wrap64 ((L : Int) * (B : Int)) > wrap64 ((A : Int) * (G : Int))
    · obtain ⟨r, s, p⟩ := ih (i + 1) i (by omega) (by omega)
      refine ⟨r, Ev.step (fun k => ?_) s, Ev.step (fun k => by simp only [impl_WeakestOf.l0, rdIY hil, rdIY hb, e1, e2, e3, e4]; rw [if_pos c4, if_pos c3, if_pos c4]) (Ev.bind (implFrac_ev L G _ hL hG) ?_)⟩
      · simp only [spec_WeakestOf.l0, rdIY hil, rdIY hb, e1, e2, e3, e4, w1, w2, w3, w4, w5]
        rw [if_pos c4, if_pos c3, if_pos c1, if_pos c2, if_pos hc]
      · simp only [if_pos c1, if_pos c2]
        refine Ev.bind (implFrac_ev A B _ hA hB) ?_
        simp only [if_pos (x.2 hc), w5]; exact p
    · obtain ⟨r, s, p⟩ := ih (i + 1) b (by omega) hb
      refine ⟨r, Ev.step (fun k => ?_) s, Ev.step (fun k => by simp only [impl_WeakestOf.l0, rdIY hil, rdIY hb, e1, e2, e3, e4]; rw [if_pos c4, if_pos c3, if_pos c4]) (Ev.bind (implFrac_ev L G _ hL hG) ?_)⟩
      · simp only [spec_WeakestOf.l0, rdIY hil, rdIY hb, e1, e2, e3, e4, w1, w2, w3, w4, w5]
        rw [if_pos c4, if_pos c3, if_pos c1, if_pos c2, if_neg hc]
      · simp only [if_pos c1, if_pos c2]
        refine Ev.bind (implFrac_ev A B _ hA hB) ?_
        simp only [if_neg (fun h => hc (x.1 h)), w5]; exact p
theorem weak_same (l : List IY) (hl : (l.length : Int) ≤ 140737488351232) (hw : ∀ x ∈ l, (-32768 ≤ x.f0 ∧ x.f0 ≤ 32767) ∧ (-32768 ≤ x.f2 ∧ x.f2 ≤ 32767)) : Same (fun k => spec_WeakestOf.f k l) (fun k => impl_WeakestOf.f k l) := by
  unfold spec_WeakestOf.f impl_WeakestOf.f
  simp only [impl_yCode l _ hl, Option.bind_some]
  by_cases hc : yCode l true = 0
  · obtain ⟨hv, _, hlen⟩ := yCode_zero hc
    by_cases h0 : (l.length : Int) = 0
    · refine ⟨(0, 0, 0, 6), Ev.bind (spec_yCode l _ hl) ?_, ?_⟩
      · simp only [hc, if_true, h0]
        exact Ev.step (fun k => by simp only [spec_WeakestOf.j0]; rfl) (Ev.step (f := fun _ => some (0, 0, 0, 6)) (fun k => by simp [spec_WeakestOf.j1]) (Ev.now _))
      · simp only [hc, if_true, if_pos h0]; exact Ev.now _
    · have hb : ((l.length : Int) == 0) = false := by simpa using h0
      have ho : OkY l := fun x hx => vY_nat (hv x hx) (hw x hx).1 (hw x hx).2
      have hp : 0 < l.length := by omega
      -- the reference begins at 1, the program at 0: the first is compared with itself
      obtain ⟨r, s, p⟩ := weak_loop l hlen ho (l.length - 1) 1 0 (by omega) hp
      obtain ⟨L, G, e1, e2, hL, hG⟩ := ho l[0] (List.getElem_mem _)
      have p0 : Ev (fun k => impl_WeakestOf.l0 k l 0 l (l.length : Int) 0) r := by
        have q := rdIY (l := l) (i := 0) hp
        have q' : rd_T106 l (0 : Int) = l[0] := q
        have c1 : (0 : Int) < (l.length : Int) := by omega
        have c2 : (0 : Int) ≤ 0 := by omega
        have w5 : wrap64 ((0 : Int) + 1) = ((1 : Nat) : Int) := by rw [wr (by omega) (by omega)]; rfl
        refine Ev.step (fun k => by simp only [impl_WeakestOf.l0, q', e1, e2]; rw [if_pos c1, if_pos c2, if_pos c1]) (Ev.bind (implFrac_ev L G _ hL hG) ?_)
        simp only [if_pos c2, if_pos c1]
        refine Ev.bind (implFrac_ev L G _ hL hG) ?_
        simp only [gt_iff_lt, Int.lt_irrefl, if_false, w5]; exact p
      refine ⟨r, Ev.bind (spec_yCode l _ hl) ?_, ?_⟩
      · simp only [hc, if_true]
        rw [hb]
        exact Ev.step (fun k => by simp only [spec_WeakestOf.j0, Bool.false_eq_true, if_false]; rfl) (Ev.step (fun k => by simp only [spec_WeakestOf.j1, if_true]; rfl) s)
      · simp only [hc, if_true, if_neg h0]; exact p0
  · refine ⟨(0, 0, 0, yCode l true), Ev.bind (spec_yCode l _ hl) ?_, ?_⟩
    · simp only [if_neg hc]
      exact Ev.step (fun k => by simp only [spec_WeakestOf.j0, Bool.false_eq_true, if_false]; rfl) (Ev.step (f := fun _ => some (0, 0, 0, yCode l true)) (fun k => by simp only [spec_WeakestOf.j1, if_neg hc]) (Ev.now _))
    · simp only [if_neg hc]; exact Ev.now _
theorem wfy16 {a : Int} (h : (Lit.int .i16 a).wf = true) : -32768 ≤ a ∧ a ≤ 32767 := by
  simp only [Lit.wf, IntKind.min, IntKind.max, IntKind.signed, IntKind.bits, Bool.and_eq_true, decide_eq_true_eq, if_true] at h
  omega
theorem FnExactWeakestOf : laws_FnExactWeakestOf.Pure := by
  intro l ⟨hl, hw⟩
  refine Ev.rounds ?_
  unfold laws_FnExactWeakestOf.f
  simp only [szYarn_f l 1048576 (by omega) (by omega), Option.bind_some]
  by_cases h : (l.length : Int) ≤ 1048576
  · have hn : ¬ (1048576 - (l.length : Int) < 0) := by omega
    simp only [if_pos h, if_neg hn]
    have ht := toYarnS_ev l (by omega) (by omega)
    have hw' : ∀ x ∈ l.map toY, (-32768 ≤ x.f0 ∧ x.f0 ≤ 32767) ∧ (-32768 ≤ x.f2 ∧ x.f2 ≤ 32767) := by
      intro x hx
      obtain ⟨y, hy, rfl⟩ := List.mem_map.1 hx
      exact ⟨wfy16 (hw y hy).1, wfy16 (hw y hy).2.2⟩
    obtain ⟨⟨a, b, c, e⟩, f1, f2⟩ := weak_same (l.map toY) (by simp; omega) hw'
    refine Ev.bind ht (Ev.bind f1 (Ev.bind ht (Ev.bind f2 ?_)))
    simp only [laws_eqFraction.f, if_true, Option.bind_some, bne_self_eq_false]
    refine Ev.step (fun k => by simp only [laws_FnExactWeakestOf.j0, Bool.false_eq_true, if_false]; rfl) (Ev.bind ht (Ev.bind (eqYarnS_self (l.map toY) (by simp; omega)) ?_))
    simp only [if_true]; exact Ev.now _
  · simp only [if_neg h, show ((-1 : Int) < 0) from by omega, if_true]; exact Ev.now _
end Go.Proofs.Ytfkckobfpfkbjaa.Pure
