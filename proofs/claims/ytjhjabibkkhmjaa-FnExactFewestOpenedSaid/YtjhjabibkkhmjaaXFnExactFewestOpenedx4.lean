/- The functions that the law FnExactFewestOpened reaches: each as a Lean function, and that its call does what that function says; no conditions. -/
import Derived.Test.YtjhjabibkkhmjaaXFnExactFewestOpenedx0
namespace Go.Proofs.Ytjhjabibkkhmjaa.XFnExactFewestOpened
open Go.RowKit Go.Proofs.YtjhjabibkkhmjaaW.PrintWords Go.Proofs.YtjhjabibkkhmjaaW.PrintLast Go.Proofs.YtjhjabibkkhmjaaW.PrintMore
attribute [local go_sem] max2_int min2_int max_two min_two max_three min_three max_four min_four   -- for this text's walks alone
set_option linter.unusedVariables false
set_option linter.unusedSimpArgs false

/-! ### laws_toInt64S: function 31 -/
def laws_toInt64S.l0 : Nat → List Int → List Int → Int → Option (List Int)
  | 0, _, _, _ => none
  | k + 1, x0, x3, x4 => if x4 < (x0.length : Int) then (if 0 ≤ x4 then (if x4 < (x3.length : Int) then (laws_toInt64S.l0 k x0 (x3.set (x4 : Int).toNat (rd x0 x4)) (wrap64 (x4 + 1))) else (none)) else (none)) else (some x3)
def laws_toInt64S.f (k : Nat) (l0 : List Int) : Option (List Int) := if 0 ≤ (l0.length : Int) then (if ((l0.length : Int) : Int).toNat ≤ 35184372088832 then (laws_toInt64S.l0 k l0 (List.replicate ((l0.length : Int) : Int).toNat 0) 0) else (none)) else (none)
theorem laws_toInt64S.mono_l : ∀ k, (∀ y0 y1 y2, LeO (laws_toInt64S.l0 k y0 y1 y2) (laws_toInt64S.l0 (k + 1) y0 y1 y2))
  | 0 => fun _ _ _ r h => by simp [laws_toInt64S.l0] at h
  | k + 1 => by
    have ih0 := laws_toInt64S.mono_l k
    · intro y0 y1 y2
      unfold laws_toInt64S.l0
      repeat' first
      | (with_reducible exact ih0 _ _ _)
      | (with_reducible exact LeO.refl _)
      | (with_reducible exact LeO.none _)
      | (with_reducible refine LeO.ite ?_ ?_)
      | (with_reducible refine LeO.bind ?_ (fun _ => ?_))
      | exact ih0 _ _ _
      | exact LeO.none _
      | refine LeO.ite ?_ ?_
      | refine LeO.bind ?_ (fun _ => ?_)
theorem laws_toInt64S.mono : ∀ a0 k, LeO (laws_toInt64S.f k a0) (laws_toInt64S.f (k + 1) a0) := by
  intro a0 k
  have ih0 := laws_toInt64S.mono_l k
  unfold laws_toInt64S.f
  repeat' first
      | (with_reducible exact ih0 _ _ _)
      | (with_reducible exact LeO.refl _)
      | (with_reducible exact LeO.none _)
      | (with_reducible refine LeO.ite ?_ ?_)
      | (with_reducible refine LeO.bind ?_ (fun _ => ?_))
      | exact ih0 _ _ _
      | exact LeO.none _
      | refine LeO.ite ?_ ?_
      | refine LeO.bind ?_ (fun _ => ?_)
set_option maxHeartbeats 8000000 in
set_option maxRecDepth 100000 in
theorem laws_toInt64S.calls (k : Nat) (A0 : Option Addr) (c0 : Nat) (l0 : List Int) (r : List Int) (w : World) (hr0 : Kd.C (Kd.int .i64) w A0 l0.length l0) (hc0 : l0.length ≤ c0) (h : laws_toInt64S.f k l0 = some r) :
    Calls Try.prog 31 #[.slice A0 l0.length c0] w fun e w' => ∃ v0_ : Value, e = .returned (v0_) ∧ Kd.R (Kd.int .i64) 2 w' w.heap.size (fun _ => True) v0_ r ∧ Below w.heap.size w w' := by
  have HR0 := Aside0.mk hr0
  have HC0 := Aside0.mk hc0
  clear hr0 hc0
  have HB := Aside0.mk (Below.refl w.heap.size w)
  have H : (if 0 ≤ (l0.length : Int) then (if ((l0.length : Int) : Int).toNat ≤ 35184372088832 then (laws_toInt64S.l0 k l0 (List.replicate ((l0.length : Int) : Int).toNat 0) 0) else (none)) else (none)) = some r := h
  clear h
  by_cases c2 : 0 ≤ (l0.length : Int)
  · rw [if_pos c2] at H
    have c2b0 := eq_true c2
    have c2b1 : decide (0 ≤ (l0.length : Int)) = true := decide_eq_true c2
    clear c2
    by_cases c3 : ((l0.length : Int) : Int).toNat ≤ 35184372088832
    · rw [if_pos c3] at H
      have c3b0 := eq_true c3
      have c3b1 : decide (((l0.length : Int) : Int).toNat ≤ 35184372088832) = true := decide_eq_true c3
      clear c3
      obtain ⟨y134, hy134⟩ : ∃ y_ : List Int, y_ = (List.replicate ((l0.length : Int) : Int).toNat 0) := ⟨_, rfl⟩
      replace H : (laws_toInt64S.l0 k l0 y134 0) = some r := by first | (rw [hy134]; with_reducible exact H) | (have H2_ := (Option.bind_some _ _).symm.trans H; rw [hy134]; with_reducible exact H2_) | (have H2_ := (Option.bind_some _ _).symm.trans H; with_reducible exact H2_) | with_reducible exact H | (rw [hy134]; exact H) | exact H
      have Ny134 := Aside0.mk hy134
      clear hy134
      have H' := Aside0.mk H
      clear H
      go_enter Try.func31, Try.ntmps31
      go_wp2_with (first | ((with_reducible refine gate_dst (N := 7) rfl ?_); refine Kd.R_make (Kd.int .i64) _ 2 rfl (N := 7) rfl 25 _ _ rfl (l0.length : Int) rfl rfl Try.underlying25 (.int .i64 0) 8 info2 rfl (by decide) (by omega) 0 (ok := fun _ => True) (okp := fun _ => True) rfl (fun _ hk => hk) trivial (of_decide_eq_true (by first | (with_reducible assumption) | assumption)) (Nat.le_trans (Nat.mul_le_mul_right _ (of_decide_eq_true (by first | (with_reducible assumption) | assumption) : (l0.length : Int).toNat ≤ 35184372088832)) (by omega)) (Below.refl _ _) (Nat.le_refl _) ?_; intro v135 w4 ho5 hb hg_ hnew_; clear hg_ hnew_; (first | rw [← Ny134.out] at ho5 | (simp only [Int.reduceToNat] at ho5; rw [← Ny134.out] at ho5)); have n0_ := Aside0.mk (Kd.R_lower ho5 (below_size (by repeat (first | (with_reducible first | exact HB.out | apply below_alloc | apply pw_below_drewN | apply below_drew1) | exact HB.out)))); have n1_ := Aside0.mk (below_step (by repeat (first | (with_reducible first | exact HB.out | apply below_alloc | apply pw_below_drewN | apply below_drew1) | exact HB.out)) hb); clear HB; have HO136 := n0_; have HB := n1_; clear n0_ n1_; clear hb ho5))
      go_loopg [4] k (fun kq v4 w' => ∃ (x3_1 : List Int) (x4_1 : Int), v4 = .int .i64 x4_1 ∧ Aside0 (laws_toInt64S.l0 kq l0 x3_1 x4_1 = some r) ∧ Aside0 (kq ≤ k) ∧ Aside0 (Kd.R (Kd.int .i64) 2 w' w.heap.size (fun _ => True) v135 x3_1) ∧ Aside0 (Below w.heap.size w w'))
      case atStart => exact ⟨(y134), (0), (by first | rfl | (simp; done) | (simp [*]; done)), H', ⟨Nat.le_refl _⟩, ⟨by (with_reducible repeat (first | apply Kd.R_alloc | apply Kd.R_drewN | apply Kd.R_drew)); exact HO136.out⟩, ⟨by repeat (first | (with_reducible first | exact HB.out | apply below_alloc | apply pw_below_drewN | apply below_drew1) | exact HB.out)⟩⟩
      case round =>
        clear H'
        try clear c2
        try clear c2b0
        try clear c2b1
        try clear p2
        try clear c3
        try clear c3b0
        try clear c3b1
        obtain ⟨x3_1, x4_1, rfl, HA, HK1, HO_3, HB⟩ := hrel
        cases gk with
        | zero => exact absurd HA.out (by simp [laws_toInt64S.l0])
        | succ k1 =>
          have H := HA.out
          clear HA
          simp only [laws_toInt64S.l0] at H
          by_cases c6 : x4_1 < (l0.length : Int)
          · rw [if_pos c6] at H
            have c6b0 : decide (x4_1 < (l0.length : Int)) = true := decide_eq_true c6
            clear c6
            by_cases c7 : 0 ≤ x4_1
            · rw [if_pos c7] at H
              have c7b0 : decide (0 ≤ x4_1) = true := decide_eq_true c7
              clear c7
              by_cases c8 : x4_1 < (x3_1.length : Int)
              · rw [if_pos c8] at H
                have c8b0 : decide (x4_1 < (x3_1.length : Int)) = true := decide_eq_true c8
                clear c8
                obtain ⟨y138, hy138⟩ : ∃ y_ : List Int, y_ = (x3_1.set (x4_1 : Int).toNat (rd l0 x4_1)) := ⟨_, rfl⟩
                replace H : (laws_toInt64S.l0 k1 l0 y138 (wrap64 (x4_1 + 1))) = some r := by first | (rw [hy138]; with_reducible exact H) | (have H2_ := (Option.bind_some _ _).symm.trans H; rw [hy138]; with_reducible exact H2_) | (have H2_ := (Option.bind_some _ _).symm.trans H; with_reducible exact H2_) | with_reducible exact H | (rw [hy138]; exact H) | exact H
                have Ny138 := Aside0.mk hy138
                clear hy138
                have H' := Aside0.mk H
                clear H
                have p137 : 0 ≤ (x4_1 : Int) := of_decide_eq_true (by first | (with_reducible assumption) | assumption)
                have q137 : x4_1 < (l0.length : Int) := of_decide_eq_true (by first | (with_reducible assumption) | assumption)
                obtain ⟨ad137, e137, hx137_0⟩ := Kd.at_int HR0.out x4_1 p137 q137
                cases e137
                replace hx137_0 := (HB.out.cell (World.block_lt_of_cell? w _ hx137_0)).trans hx137_0
                replace p137 := eq_true p137
                replace q137 := eq_true q137
                have p9 : 0 ≤ (x4_1 : Int) := of_decide_eq_true (by first | (with_reducible assumption) | assumption)
                have q9 : (x4_1 : Int) < ((x3_1.length : Int) : Int) := of_decide_eq_true (by first | (with_reducible assumption) | assumption)
                obtain ⟨go9, co9, eo9, gb9, gl9, cl9, HG9⟩ := Kd.R_form HO_3.out (by omega)
                (first | cases eo9 | (injection eo9 with ea_ en_ ec_; (first | subst ea_ | (injection ea_ with ea_; subst ea_)); subst ec_; clear en_))
                have GB9 := Aside0.mk gb9
                have GG9 := Aside0.mk HG9
                clear gb9 gl9 HG9
                obtain ⟨hx9_0, hf9_0⟩ := Kd.R_celln 0 HO_3.out (x4_1 : Int) p9 q9
                replace p9 := eq_true p9
                replace q9 := eq_true q9
                have HP10 := Kd.R_putg HO_3.out (x4_1 : Int) (rd l0 x4_1)
                go_wp2_with (first | ((with_reducible refine gate_store (t := 2) (p := 20) rfl ?_); refine store_event (t := 2) (p := 20) (v := ?vo_w11) (w1 := (wr.setCell ⟨go9, (x4_1 : Int).toNat, none⟩ (.int .i64 (rd l0 x4_1)))) ?hg ?ho ?hn ?hr ?_; (case ho => rfl); (case hg => rfl); (case hn => rfl); (case hr => first | (go_simp; done) | (go_simp; rfl)); intro w11 hw; have hg : wr.grownBy w11 (some go9) := (by rw [hw]; exact HP10.2); have hp_ : Kd.R (Kd.int .i64) 2 w11 w.heap.size (fun _ => True) (.slice (some ⟨go9, 0, none⟩) x3_1.length co9) y138 := (by rw [hw, Ny138.out]; exact HP10.1); clear HP10; have n0_ := Aside0.mk (hp_); have n1_ := Aside0.mk ((by rw [hw]; exact below_set (HB.out) GB9.out : Below w.heap.size w w11)); clear HO_3; clear HB; have HO_3 := n0_; have HB := n1_; clear n0_ n1_; clear hg hw hp_))
                go_roundg k1
                case measure => have := HK1.out; omega
                case rel => exact ⟨(y138), (wrap64 (x4_1 + 1)), (by first | rfl | (simp; done) | (simp [*]; done)), H', ⟨by have := HK1.out; omega⟩, ⟨by (with_reducible repeat (first | apply Kd.R_alloc | apply Kd.R_drewN | apply Kd.R_drew)); exact HO_3.out⟩, ⟨by repeat (first | (with_reducible first | exact HB.out | apply below_alloc | apply pw_below_drewN | apply below_drew1) | exact HB.out)⟩⟩
              · rw [if_neg c8] at H
                exact absurd H (by simp)
            · rw [if_neg c7] at H
              exact absurd H (by simp)
          · rw [if_neg c6] at H
            have c6b0 : decide (x4_1 < (l0.length : Int)) = false := decide_eq_false c6
            clear c6
            obtain rfl := Option.some.inj H
            go_wp2
            go_ret
            exact ⟨_, by first | rfl | (simp [errW_none, errW_some] <;> rfl) | (simp [*, errW_none, errW_some] <;> rfl), by (with_reducible repeat (first | apply Kd.R_alloc | apply Kd.R_drewN | apply Kd.R_drew)); exact HO_3.out, by repeat (first | (with_reducible first | exact HB.out | apply below_alloc | apply pw_below_drewN | apply below_drew1) | exact HB.out)⟩
    · rw [if_neg c3] at H
      exact absurd H (by simp)
  · rw [if_neg c2] at H
    exact absurd H (by simp)


def idxO {α : Type} (q : α → Option Bool) : List α → Int → Option Int
  | [], _ => some (-1)
  | x :: l, i => (q x).bind fun b => if b = true then some i else idxO q l (i + 1)
def allO {α : Type} (q : α → Option Bool) : List α → Option Bool
  | [] => some true
  | x :: l => (q x).bind fun b => if b = true then allO q l else some false
/-- The first place at which q holds, or -1. -/
def idxG {α : Type} (l : List α) (q : α → Option Bool) : Option Int := if (l.length : Int) ≤ 4611686018427387904 then idxO q l 0 else none
/-- Does q hold of all? -/
def allG {α : Type} (l : List α) (q : α → Option Bool) : Option Bool := if (l.length : Int) ≤ 4611686018427387904 then allO q l else none
theorem idxO_mono {α : Type} {q q' : α → Option Bool} (h : ∀ x, LeO (q x) (q' x)) : ∀ (l : List α) (i : Int), LeO (idxO q l i) (idxO q' l i)
  | [], i => LeO.refl _
  | x :: l, i => by
    simp only [idxO]
    exact LeO.bind (h x) (fun b => LeO.ite (LeO.refl _) (idxO_mono h l (i + 1)))
theorem allO_mono {α : Type} {q q' : α → Option Bool} (h : ∀ x, LeO (q x) (q' x)) : ∀ (l : List α), LeO (allO q l) (allO q' l)
  | [] => LeO.refl _
  | x :: l => by
    simp only [allO]
    exact LeO.bind (h x) (fun b => LeO.ite (allO_mono h l) (LeO.refl _))
theorem idxG_mono {α : Type} (l : List α) {q q' : α → Option Bool} (h : ∀ x, LeO (q x) (q' x)) : LeO (idxG l q) (idxG l q') := LeO.ite (idxO_mono h l 0) (LeO.refl _)
theorem allG_mono {α : Type} (l : List α) {q q' : α → Option Bool} (h : ∀ x, LeO (q x) (q' x)) : LeO (allG l q) (allG l q') := LeO.ite (allO_mono h l) (LeO.refl _)
theorem idxO_all {α : Type} (q : α → Option Bool) : ∀ (l : List α) (i : Int) (r : Bool), 0 ≤ i → allO q l = some r → ∃ j, idxO (fun x => (q x).map (!·)) l i = some j ∧ (!decide (0 ≤ j)) = r
  | [], i, r, _, h => ⟨-1, rfl, by simp only [allO, Option.some.injEq] at h; subst h; decide⟩
  | x :: l, i, r, hi, h => by
    simp only [allO] at h
    obtain ⟨b, hb, h⟩ := Option.bind_eq_some_iff.mp h
    cases b with
    | true =>
      simp only [if_true] at h
      obtain ⟨j, h1, h2⟩ := idxO_all q l (i + 1) r (by omega) h
      exact ⟨j, by simp [idxO, hb, h1], h2⟩
    | false =>
      simp only [Bool.false_eq_true, if_false, Option.some.injEq] at h
      subst h
      exact ⟨i, by simp [idxO, hb], by simp [hi]⟩
theorem idxG_all {α : Type} (q : α → Option Bool) (l : List α) (r : Bool) (h : allG l q = some r) : ∃ j, idxG l (fun x => (q x).map (!·)) = some j ∧ (!decide (0 ≤ j)) = r := by
  unfold allG at h
  split at h
  · rename_i hl
    obtain ⟨j, h1, h2⟩ := idxO_all q l 0 r (by omega) h
    exact ⟨j, by unfold idxG; rw [if_pos hl]; exact h1, h2⟩
  · cases h

/-! ### impl_Yarn_207: function 207 -/
@[reducible] def impl_Yarn_207.f (l0 : List S88) (q : S88 → Option Bool) : Option Int := idxG l0 q
set_option maxHeartbeats 2000000 in
theorem impl_Yarn_207.calls (A0 : Option Addr) (c0 : Nat) (l0 : List S88) (q : S88 → Option Bool) (g : Nat) (lb : Array Value) (eg : ∀ args w, (callFunc g args).run Try.prog w = .ok (.enter g args) w) (r : Int) (w : World) (hr0 : Kd.C k88 w A0 l0.length l0) (hc0 : l0.length ≤ c0) (hp : ∀ (x : S88) (b : Bool) (W : World), Below w.heap.size w W → q x = some b → Calls Try.prog g (#[.agg #[.int .i16 x.f0, .int .i16 x.f1, .int .i16 x.f2]] ++ lb) W fun e w' => e = .returned (.bool b) ∧ Below W.heap.size W w') (h : impl_Yarn_207.f l0 q = some r) :
    Calls Try.prog 207 #[.slice A0 l0.length c0, .func (.func g) #[] lb] w fun e w' => e = .returned (.int .i64 r) ∧ Below w.heap.size w w' := by
  have h : idxG l0 q = some r := h
  unfold idxG at h
  split at h
  next hlen =>
    have HR0 := Aside0.mk hr0
    have HP := Aside0.mk hp
    have HH := Aside0.mk h
    clear hr0 hp h
    go_enter Try.func207, Try.ntmps207
    go_wp2
    go_loopg [5, 8] l0.length (fun gg _ v8 wr => ∃ kk : Nat, kk ≤ l0.length ∧ l0.length - kk ≤ gg ∧ v8 = .int .i64 kk ∧ Aside0 (Below w.heap.size w wr) ∧ Aside0 (idxO q (l0.drop kk) kk = some r))
    case atStart => exact ⟨0, Nat.zero_le _, by omega, rfl, ⟨Below.refl _ w⟩, ⟨by simpa using HH.out⟩⟩
    case round =>
      clear HH
      obtain ⟨kk, hkk, hg, rfl, BW, HA⟩ := hrel
      by_cases hlt : kk < l0.length
      · have hltz : (kk : Int) < (l0.length : Int) := by omega
        obtain ⟨ad, e, hx0, hx1, hx2⟩ := at_T88 HR0.out (kk : Int) (by omega) (by omega)
        cases e
        simp only [Int.toNat_natCast] at hx0 hx1 hx2
        replace hx0 := (BW.out.cell (World.block_lt_of_cell? w _ hx0)).trans hx0
        replace hx1 := (BW.out.cell (World.block_lt_of_cell? w _ hx1)).trans hx1
        replace hx2 := (BW.out.cell (World.block_lt_of_cell? w _ hx2)).trans hx2
        have hrd : rd_T88 l0 (kk : Int) = l0[kk] := by unfold rd_T88; simp [List.getD, hlt]
        have hA := HA.out
        rw [List.drop_eq_getElem_cons hlt] at hA
        simp only [idxO] at hA
        obtain ⟨b, hb, hA⟩ := Option.bind_eq_some_iff.mp hA
        rw [← hrd] at hb
        have hcall := HP.out (rd_T88 l0 (kk : Int)) b wr BW.out hb
        clear hrd hb
        generalize rd_T88 l0 (kk : Int) = y at hx0 hx1 hx2 hcall
        have HA2 := Aside0.mk hA
        clear hA
        cases b with
        | true =>
          go_wp2_with (go_at_fn g; refine hcall.mono ?_; rintro e w' ⟨rfl, hb'⟩)
          go_ret
          have hr : (kk : Int) = r := by have := HA2.out; simpa using this
          exact ⟨by subst hr; rfl, BW.out.trans (hb'.mono BW.out.size)⟩
        | false =>
          go_wp2_with (go_at_fn g; refine hcall.mono ?_; rintro e w' ⟨rfl, hb'⟩)
          go_roundg (l0.length - (kk + 1))
          case measure => omega
          case rel => exact ⟨kk + 1, by omega, by omega, by go_num, ⟨BW.out.trans (hb'.mono BW.out.size)⟩, ⟨by have := HA2.out; simpa using this⟩⟩
      · have hltz : ¬ (kk : Int) < (l0.length : Int) := by omega
        have : kk = l0.length := by omega
        subst this
        have hr : (-1 : Int) = r := by have := HA.out; simpa [idxO] using this
        go_wp2
        go_ret
        exact ⟨by subst hr; rfl, BW.out⟩
  next => cases h
theorem impl_Yarn_207.eg : ∀ args w, (callFunc 207 args).run Try.prog w = .ok (.enter 207 args) w := enters_of Try.func207 (by kernel_rfl) rfl

/-! ### impl_Yarn_186: function 186 -/
@[reducible] def impl_Yarn_186.f (l0 : List S88) (q : S88 → Option Bool) : Option Bool := (idxG l0 q).bind fun j => some (decide (0 ≤ j))
set_option maxHeartbeats 1000000 in
theorem impl_Yarn_186.calls (A0 : Option Addr) (c0 : Nat) (l0 : List S88) (q : S88 → Option Bool) (g : Nat) (lb : Array Value) (eg : ∀ args w, (callFunc g args).run Try.prog w = .ok (.enter g args) w) (r : Bool) (w : World) (hr0 : Kd.C k88 w A0 l0.length l0) (hc0 : l0.length ≤ c0) (hp : ∀ (x : S88) (b : Bool) (W : World), Below w.heap.size w W → q x = some b → Calls Try.prog g (#[.agg #[.int .i16 x.f0, .int .i16 x.f1, .int .i16 x.f2]] ++ lb) W fun e w' => e = .returned (.bool b) ∧ Below W.heap.size W w') (h : impl_Yarn_186.f l0 q = some r) :
    Calls Try.prog 186 #[.slice A0 l0.length c0, .func (.func g) #[] lb] w fun e w' => e = .returned (.bool r) ∧ Below w.heap.size w w' := by
  obtain ⟨j, hj, hr⟩ := Option.bind_eq_some_iff.mp h
  have hc := impl_Yarn_207.calls A0 c0 l0 q g lb eg j w hr0 hc0 hp hj
  have HR := Aside0.mk (Option.some.inj hr)
  clear hr0 hp h hj hr
  go_enter Try.func186, Try.ntmps186
  go_wp2_with (go_at_call 207; refine hc.mono ?_; rintro e w' ⟨rfl, hb'⟩)
  go_ret
  exact ⟨by rw [← HR.out]; rfl, hb'⟩

/-! ### impl_Yarn_1: function 187 -/
theorem impl_Yarn_1.eg : ∀ args w, (callFunc 187 args).run Try.prog w = .ok (.enter 187 args) w := enters_of Try.func187 (by kernel_rfl) rfl
set_option maxHeartbeats 1000000 in
theorem impl_Yarn_1.calls (q : S88 → Option Bool) (g : Nat) (lb : Array Value) (eg : ∀ args w, (callFunc g args).run Try.prog w = .ok (.enter g args) w) (B : Nat) (w : World) (hB : B < w.heap.size) (hcell : w.cell? ⟨B, 0, none⟩ = some (.func (.func g) #[] lb))
    (hp : ∀ (x : S88) (b : Bool) (W : World), Below w.heap.size w W → q x = some b → Calls Try.prog g (#[.agg #[.int .i16 x.f0, .int .i16 x.f1, .int .i16 x.f2]] ++ lb) W fun e w' => e = .returned (.bool b) ∧ Below W.heap.size W w') (x : S88) (b : Bool) (W : World) (hb : Below w.heap.size w W) (hq : (q x).map (!·) = some b) :
    Calls Try.prog 187 (#[.agg #[.int .i16 x.f0, .int .i16 x.f1, .int .i16 x.f2]] ++ #[.pointer (some ⟨B, 0, none⟩)]) W fun e w' => e = .returned (.bool b) ∧ Below W.heap.size W w' := by
  obtain ⟨b', hq', hbb⟩ := Option.map_eq_some_iff.mp hq
  have hc : W.cell? ⟨B, 0, none⟩ = some (.func (.func g) #[] lb) := (hb.cell (p := ⟨B, 0, none⟩) hB).trans hcell
  have hBW : B < W.heap.size := Nat.lt_of_lt_of_le hB hb.size
  have hne : B ≠ W.heap.size := by omega
  have hcall := hp x b' (W.alloc (.cells #[.int .i16 x.f0, .int .i16 x.f1, .int .i16 x.f2] 88)) (hb.alloc hb.size _) hq'
  have hb1 : Below W.heap.size W (W.alloc (.cells #[.int .i16 x.f0, .int .i16 x.f1, .int .i16 x.f2] 88)) := (Below.refl _ W).alloc (Nat.le_refl _) _
  have HQ := Aside0.mk hbb
  clear hp hq hq' hbb
  show Calls Try.prog 187 #[.agg #[.int .i16 x.f0, .int .i16 x.f1, .int .i16 x.f2], .pointer (some ⟨B, 0, none⟩)] W _
  go_enter Try.func187, Try.ntmps187
  go_wp2_with (go_at_fn g; refine hcall.mono ?_; rintro e w' ⟨rfl, hb'⟩)
  go_ret
  exact ⟨by rw [← HQ.out]; rfl, hb1.trans (hb'.mono (by simp))⟩

/-! ### impl_Yarn_149: function 149 -/
@[reducible] def impl_Yarn_149.f (l0 : List S88) (q : S88 → Option Bool) : Option Bool := allG l0 q
set_option maxHeartbeats 1000000 in
theorem impl_Yarn_149.calls (A0 : Option Addr) (c0 : Nat) (l0 : List S88) (q : S88 → Option Bool) (g : Nat) (lb : Array Value) (eg : ∀ args w, (callFunc g args).run Try.prog w = .ok (.enter g args) w) (r : Bool) (w : World) (hr0 : Kd.C k88 w A0 l0.length l0) (hc0 : l0.length ≤ c0) (hp : ∀ (x : S88) (b : Bool) (W : World), Below w.heap.size w W → q x = some b → Calls Try.prog g (#[.agg #[.int .i16 x.f0, .int .i16 x.f1, .int .i16 x.f2]] ++ lb) W fun e w' => e = .returned (.bool b) ∧ Below W.heap.size W w') (h : impl_Yarn_149.f l0 q = some r) :
    Calls Try.prog 149 #[.slice A0 l0.length c0, .func (.func g) #[] lb] w fun e w' => e = .returned (.bool r) ∧ Below w.heap.size w w' := by
  obtain ⟨j, hj, hr⟩ := idxG_all q l0 r h
  have hb1 : Below w.heap.size w (w.alloc (.cells #[.func (.func g) #[] lb] 187)) := (Below.refl _ w).alloc (Nat.le_refl _) _
  have hc := impl_Yarn_186.calls A0 c0 l0 (fun x => (q x).map (!·)) 187 #[.pointer (some ⟨w.heap.size, 0, none⟩)] impl_Yarn_1.eg (decide (0 ≤ j)) (w.alloc (.cells #[.func (.func g) #[] lb] 187)) (Kd.C_alloc hr0 _) hc0
    (fun x b W hW hq => impl_Yarn_1.calls q g lb eg w.heap.size _ (by simp) (by simp) (fun x b W hW hq => hp x b W (hb1.trans (hW.mono (by simp))) hq) x b W hW hq) (by show (idxG l0 _).bind _ = _; rw [hj]; rfl)
  have HR := Aside0.mk hr
  clear hr0 hp h hj hr
  generalize decide (0 ≤ j) = jj at hc HR
  go_enter Try.func149, Try.ntmps149
  go_wp2_with (go_at_call 186; refine hc.mono ?_; rintro e w' ⟨rfl, hb'⟩)
  go_ret
  exact ⟨by rw [← HR.out]; rfl, hb1.trans (hb'.mono (by simp))⟩

/-! ### impl_within: function 89 -/
def impl_within.f (a0 : Int) (a1 : Int) (a2 : Int) : Option (Bool) := if a1 ≤ a0 then (some (decide (a0 ≤ a2))) else (some false)
set_option maxHeartbeats 8000000 in
set_option maxRecDepth 100000 in
theorem impl_within.calls (a0 : Int) (a1 : Int) (a2 : Int) (r : Bool) (w : World) (h : impl_within.f a0 a1 a2 = some r) :
    Calls Try.prog 89 #[.int .i64 a0, .int .i64 a1, .int .i64 a2] w fun e w' => e = .returned (.bool r) ∧ Drawn0 w w' := by
  have H : (if a1 ≤ a0 then (some (decide (a0 ≤ a2))) else (some false)) = some r := h
  clear h
  by_cases c4 : a1 ≤ a0
  · rw [if_pos c4] at H
    have c4b0 : decide (a1 ≤ a0) = true := decide_eq_true c4
    clear c4
    obtain rfl := Option.some.inj H
    go_enter Try.func89, Try.ntmps89
    go_wp2
    go_ret
    exact ⟨by first | rfl | (simp; done) | (simp [*]; done), by repeat (first | exact Drawn0.refl _ | apply Drawn0.step)⟩
  · rw [if_neg c4] at H
    have c4b0 : decide (a1 ≤ a0) = false := decide_eq_false c4
    clear c4
    obtain rfl := Option.some.inj H
    go_enter Try.func89, Try.ntmps89
    go_wp2
    go_ret
    exact ⟨by first | rfl | (simp; done) | (simp [*]; done), by repeat (first | exact Drawn0.refl _ | apply Drawn0.step)⟩

/-! ### impl_ValidYarn: function 150 -/
def impl_ValidYarn.f (a0_0 : Int) (a0_1 : Int) (a0_2 : Int) : Option (Bool) := (impl_within.f (wrap64 (a0_0)) 1 5000).bind fun t140 => (if t140 = true then ((impl_within.f (wrap64 (a0_1)) (-2000) 2000).bind fun t141 => (if t141 = true then ((impl_within.f (wrap64 (a0_2)) 1 2000).bind fun t142 => (some t142)) else (some false))) else (some false))
set_option maxHeartbeats 8000000 in
set_option maxRecDepth 100000 in
theorem impl_ValidYarn.calls (a0_0 : Int) (a0_1 : Int) (a0_2 : Int) (r : Bool) (w : World) (h : impl_ValidYarn.f a0_0 a0_1 a0_2 = some r) :
    Calls Try.prog 150 #[.agg #[.int .i16 a0_0, .int .i16 a0_1, .int .i16 a0_2]] w fun e w' => e = .returned (.bool r) ∧ Below w.heap.size w w' := by
  have hu88 := Try.underlying88
  have HB := Aside0.mk (Below.refl w.heap.size w)
  have H : ((impl_within.f (wrap64 (a0_0)) 1 5000).bind fun t140 => (if t140 = true then ((impl_within.f (wrap64 (a0_1)) (-2000) 2000).bind fun t141 => (if t141 = true then ((impl_within.f (wrap64 (a0_2)) 1 2000).bind fun t142 => (some t142)) else (some false))) else (some false))) = some r := h
  clear h
  replace H := Option.bind_eq_some_iff.mp H
  obtain ⟨t140, A20, H⟩ := H
  replace H : (if t140 = true then ((impl_within.f (wrap64 (a0_1)) (-2000) 2000).bind fun t141 => (if t141 = true then ((impl_within.f (wrap64 (a0_2)) 1 2000).bind fun t142 => (some t142)) else (some false))) else (some false)) = some r := H
  have A2 := Aside0.mk A20
  clear A20
  by_cases c3 : t140 = true
  · subst c3
    have H1 : ((impl_within.f (wrap64 (a0_1)) (-2000) 2000).bind fun t141 => (if t141 = true then ((impl_within.f (wrap64 (a0_2)) 1 2000).bind fun t142 => (some t142)) else (some false))) = some r := by rw [if_pos rfl] at H; exact H
    clear H
    have H := H1
    clear H1
    replace H := Option.bind_eq_some_iff.mp H
    obtain ⟨t141, A40, H⟩ := H
    replace H : (if t141 = true then ((impl_within.f (wrap64 (a0_2)) 1 2000).bind fun t142 => (some t142)) else (some false)) = some r := H
    have A4 := Aside0.mk A40
    clear A40
    by_cases c5 : t141 = true
    · subst c5
      have H1 : ((impl_within.f (wrap64 (a0_2)) 1 2000).bind fun t142 => (some t142)) = some r := by rw [if_pos rfl] at H; exact H
      clear H
      have H := H1
      clear H1
      replace H := Option.bind_eq_some_iff.mp H
      obtain ⟨t142, A60, H⟩ := H
      replace H : (some t142) = some r := H
      have A6 := Aside0.mk A60
      clear A60
      obtain rfl := Option.some.inj H
      go_enter Try.func150, Try.ntmps150
      go_wp2_with (first | ((with_reducible refine gate_dst (N := 1) rfl ?_); refine box_event ?hg (N := 1) ?hd (cs := #[.int .i16 a0_0, .int .i16 a0_1, .int .i16 a0_2]) (t := 88) ?hr ?_; (case hd => rfl); (case hg => rfl); (case hr => first | (go_simp; done) | (go_simp; rfl)); intro gb139 hg w7 hbox hb; have n0_ := Aside0.mk (below_step (by repeat (first | (with_reducible first | exact HB.out | apply below_alloc | apply pw_below_drewN | apply below_drew1) | exact HB.out)) hb); have n1_ := Aside0.mk (hbox); have n2_ := Aside0.mk ((by rw [hg]; exact (below_size (by repeat (first | (with_reducible first | exact HB.out | apply below_alloc | apply pw_below_drewN | apply below_drew1) | exact HB.out))) : w.heap.size ≤ gb139)); have n3_ := Aside0.mk ((by rw [hg]; exact (below_size (by repeat (first | (with_reducible first | exact HB.out | apply below_alloc | apply pw_below_drewN | apply below_drew1) | exact HB.out))) : w.heap.size ≤ gb139)); clear HB; have HB := n0_; have BK139 := n1_; have GW139 := n2_; have GE139 := n3_; clear n0_ n1_ n2_ n3_; clear hb hbox hg; have hcz8_0 : w7.cell? ⟨gb139, 0, none⟩ = some (.int .i16 a0_0) := (blk_cell BK139.out 0).trans rfl; have hcz8_1 : w7.cell? ⟨gb139, 1, none⟩ = some (.int .i16 a0_1) := (blk_cell BK139.out 1).trans rfl; have hcz8_2 : w7.cell? ⟨gb139, 2, none⟩ = some (.int .i16 a0_2) := (blk_cell BK139.out 2).trans rfl; have hfz8_0 := blk_frozen BK139.out 0; have hfz8_1 := blk_frozen BK139.out 1; have hfz8_2 := blk_frozen BK139.out 2) | ((with_reducible refine gate_callee (f := 89) rfl ?_); refine goesL_ (some 6) rfl rfl Try.func89 (by kernel_rfl) rfl #[.int .i64 (wrap64 (a0_0)), .int .i64 1, .int .i64 5000] rfl (by (try simp only [List.map_toArray, List.map_cons, List.map_nil]); first | done | rfl | (simp only [List.length_drop, List.length_take]; rfl)) ?_; (with_reducible refine (impl_within.calls (wrap64 (a0_0)) 1 5000 true _ A2.out).mono ?_); rintro e w' ⟨rfl, ⟨nd, rfl⟩⟩; refine ⟨_, rfl, ?_⟩) | (go_at_call 89; (with_reducible refine (impl_within.calls (wrap64 (a0_1)) (-2000) 2000 true _ A4.out).mono ?_); rintro e w' ⟨rfl, ⟨nd, rfl⟩⟩) | (go_at_call 89; (with_reducible refine (impl_within.calls (wrap64 (a0_2)) 1 2000 t142 _ A6.out).mono ?_); rintro e w' ⟨rfl, ⟨nd, rfl⟩⟩))
      go_ret
      exact ⟨by first | rfl | (simp [errW_none, errW_some] <;> rfl) | (simp [*, errW_none, errW_some] <;> rfl), by repeat (first | (with_reducible first | exact HB.out | apply below_alloc | apply pw_below_drewN | apply below_drew1 | refine below_set ?_ GE139.out) | exact HB.out)⟩
    · replace c5 := Bool.eq_false_iff.mpr c5
      subst c5
      have H1 : (some false) = some r := by rw [if_neg (show ¬ (false = true) by decide)] at H; exact H
      clear H
      have H := H1
      clear H1
      obtain rfl := Option.some.inj H
      go_enter Try.func150, Try.ntmps150
      go_wp2_with (first | ((with_reducible refine gate_dst (N := 1) rfl ?_); refine box_event ?hg (N := 1) ?hd (cs := #[.int .i16 a0_0, .int .i16 a0_1, .int .i16 a0_2]) (t := 88) ?hr ?_; (case hd => rfl); (case hg => rfl); (case hr => first | (go_simp; done) | (go_simp; rfl)); intro gb139 hg w9 hbox hb; have n0_ := Aside0.mk (below_step (by repeat (first | (with_reducible first | exact HB.out | apply below_alloc | apply pw_below_drewN | apply below_drew1) | exact HB.out)) hb); have n1_ := Aside0.mk (hbox); have n2_ := Aside0.mk ((by rw [hg]; exact (below_size (by repeat (first | (with_reducible first | exact HB.out | apply below_alloc | apply pw_below_drewN | apply below_drew1) | exact HB.out))) : w.heap.size ≤ gb139)); have n3_ := Aside0.mk ((by rw [hg]; exact (below_size (by repeat (first | (with_reducible first | exact HB.out | apply below_alloc | apply pw_below_drewN | apply below_drew1) | exact HB.out))) : w.heap.size ≤ gb139)); clear HB; have HB := n0_; have BK139 := n1_; have GW139 := n2_; have GE139 := n3_; clear n0_ n1_ n2_ n3_; clear hb hbox hg; have hcz10_0 : w9.cell? ⟨gb139, 0, none⟩ = some (.int .i16 a0_0) := (blk_cell BK139.out 0).trans rfl; have hcz10_1 : w9.cell? ⟨gb139, 1, none⟩ = some (.int .i16 a0_1) := (blk_cell BK139.out 1).trans rfl; have hcz10_2 : w9.cell? ⟨gb139, 2, none⟩ = some (.int .i16 a0_2) := (blk_cell BK139.out 2).trans rfl; have hfz10_0 := blk_frozen BK139.out 0; have hfz10_1 := blk_frozen BK139.out 1; have hfz10_2 := blk_frozen BK139.out 2) | ((with_reducible refine gate_callee (f := 89) rfl ?_); refine goesL_ (some 6) rfl rfl Try.func89 (by kernel_rfl) rfl #[.int .i64 (wrap64 (a0_0)), .int .i64 1, .int .i64 5000] rfl (by (try simp only [List.map_toArray, List.map_cons, List.map_nil]); first | done | rfl | (simp only [List.length_drop, List.length_take]; rfl)) ?_; (with_reducible refine (impl_within.calls (wrap64 (a0_0)) 1 5000 true _ A2.out).mono ?_); rintro e w' ⟨rfl, ⟨nd, rfl⟩⟩; refine ⟨_, rfl, ?_⟩) | (go_at_call 89; (with_reducible refine (impl_within.calls (wrap64 (a0_1)) (-2000) 2000 false _ A4.out).mono ?_); rintro e w' ⟨rfl, ⟨nd, rfl⟩⟩))
      go_ret
      exact ⟨by first | rfl | (simp [errW_none, errW_some] <;> rfl) | (simp [*, errW_none, errW_some] <;> rfl), by repeat (first | (with_reducible first | exact HB.out | apply below_alloc | apply pw_below_drewN | apply below_drew1 | refine below_set ?_ GE139.out) | exact HB.out)⟩
  · replace c3 := Bool.eq_false_iff.mpr c3
    subst c3
    have H1 : (some false) = some r := by rw [if_neg (show ¬ (false = true) by decide)] at H; exact H
    clear H
    have H := H1
    clear H1
    obtain rfl := Option.some.inj H
    go_enter Try.func150, Try.ntmps150
    go_wp2_with (first | ((with_reducible refine gate_dst (N := 1) rfl ?_); refine box_event ?hg (N := 1) ?hd (cs := #[.int .i16 a0_0, .int .i16 a0_1, .int .i16 a0_2]) (t := 88) ?hr ?_; (case hd => rfl); (case hg => rfl); (case hr => first | (go_simp; done) | (go_simp; rfl)); intro gb139 hg w11 hbox hb; have n0_ := Aside0.mk (below_step (by repeat (first | (with_reducible first | exact HB.out | apply below_alloc | apply pw_below_drewN | apply below_drew1) | exact HB.out)) hb); have n1_ := Aside0.mk (hbox); have n2_ := Aside0.mk ((by rw [hg]; exact (below_size (by repeat (first | (with_reducible first | exact HB.out | apply below_alloc | apply pw_below_drewN | apply below_drew1) | exact HB.out))) : w.heap.size ≤ gb139)); have n3_ := Aside0.mk ((by rw [hg]; exact (below_size (by repeat (first | (with_reducible first | exact HB.out | apply below_alloc | apply pw_below_drewN | apply below_drew1) | exact HB.out))) : w.heap.size ≤ gb139)); clear HB; have HB := n0_; have BK139 := n1_; have GW139 := n2_; have GE139 := n3_; clear n0_ n1_ n2_ n3_; clear hb hbox hg; have hcz12_0 : w11.cell? ⟨gb139, 0, none⟩ = some (.int .i16 a0_0) := (blk_cell BK139.out 0).trans rfl; have hcz12_1 : w11.cell? ⟨gb139, 1, none⟩ = some (.int .i16 a0_1) := (blk_cell BK139.out 1).trans rfl; have hcz12_2 : w11.cell? ⟨gb139, 2, none⟩ = some (.int .i16 a0_2) := (blk_cell BK139.out 2).trans rfl; have hfz12_0 := blk_frozen BK139.out 0; have hfz12_1 := blk_frozen BK139.out 1; have hfz12_2 := blk_frozen BK139.out 2) | ((with_reducible refine gate_callee (f := 89) rfl ?_); refine goesL_ (some 6) rfl rfl Try.func89 (by kernel_rfl) rfl #[.int .i64 (wrap64 (a0_0)), .int .i64 1, .int .i64 5000] rfl (by (try simp only [List.map_toArray, List.map_cons, List.map_nil]); first | done | rfl | (simp only [List.length_drop, List.length_take]; rfl)) ?_; (with_reducible refine (impl_within.calls (wrap64 (a0_0)) 1 5000 false _ A2.out).mono ?_); rintro e w' ⟨rfl, ⟨nd, rfl⟩⟩; refine ⟨_, rfl, ?_⟩))
    go_ret
    exact ⟨by first | rfl | (simp [errW_none, errW_some] <;> rfl) | (simp [*, errW_none, errW_some] <;> rfl), by repeat (first | (with_reducible first | exact HB.out | apply below_alloc | apply pw_below_drewN | apply below_drew1 | refine below_set ?_ GE139.out) | exact HB.out)⟩

/-! ### impl_yarnsCode: function 88 -/
/-- The first place, counted from i on, at which p holds, or -1. -/
def idxFrom {α : Type} (p : α → Bool) : List α → Int → Int
  | [], _ => -1
  | x :: l, i => if p x = true then i else idxFrom p l (i + 1)
theorem idxFrom_any {α : Type} (p : α → Bool) : ∀ (l : List α) (i : Int), 0 ≤ i → decide (0 ≤ idxFrom p l i) = l.any p
  | [], i, h => by simp [idxFrom]
  | x :: l, i, h => by
    cases hx : p x with
    | true => simp [idxFrom, hx, h]
    | false => simp [idxFrom, hx, idxFrom_any p l (i + 1) (by omega)]
set_option maxHeartbeats 2000000 in
theorem IFy (p : S88 → Bool) (g : Nat) (lb : Array Value) (eg : ∀ args w, (callFunc g args).run Try.prog w = .ok (.enter g args) w) (A0 : Option Addr) (c0 : Nat) (l0 : List S88) (w : World)
    (hr0 : Kd.C k88 w A0 l0.length l0) (hlen : (l0.length : Int) ≤ 4611686018427387904)
    (hp : ∀ (x : S88) (W : World), Below w.heap.size w W → Calls Try.prog g (#[.agg #[.int .i16 x.f0, .int .i16 x.f1, .int .i16 x.f2]] ++ lb) W fun e w' => e = .returned (.bool (p x)) ∧ Below W.heap.size W w') :
    Calls Try.prog 207 #[.slice A0 l0.length c0, .func (.func g) #[] lb] w fun e w' => e = .returned (.int .i64 (idxFrom p l0 0)) ∧ Below w.heap.size w w' := by
  have HR0 := Aside0.mk hr0
  have HP := Aside0.mk hp
  clear hr0 hp
  go_enter Try.func207, Try.ntmps207
  go_wp2
  go_loopg [5, 8] l0.length (fun gg _ v8 wr => ∃ kk : Nat, kk ≤ l0.length ∧ l0.length - kk ≤ gg ∧ v8 = .int .i64 kk ∧ Aside0 (Below w.heap.size w wr) ∧ Aside0 (idxFrom p l0 0 = idxFrom p (l0.drop kk) kk))
  case atStart => exact ⟨0, Nat.zero_le _, by omega, rfl, ⟨Below.refl _ w⟩, ⟨by simp⟩⟩
  case round =>
    obtain ⟨kk, hkk, hg, rfl, BW, A⟩ := hrel
    by_cases hlt : kk < l0.length
    · have hltz : (kk : Int) < (l0.length : Int) := by omega
      obtain ⟨ad, e, hx0, hx1, hx2⟩ := at_T88 HR0.out (kk : Int) (by omega) (by omega)
      cases e
      simp only [Int.toNat_natCast] at hx0 hx1 hx2
      replace hx0 := (BW.out.cell (World.block_lt_of_cell? w _ hx0)).trans hx0
      replace hx1 := (BW.out.cell (World.block_lt_of_cell? w _ hx1)).trans hx1
      replace hx2 := (BW.out.cell (World.block_lt_of_cell? w _ hx2)).trans hx2
      have hcall := HP.out (rd_T88 l0 (kk : Int)) wr BW.out
      have hrd : rd_T88 l0 (kk : Int) = l0[kk] := by unfold rd_T88; simp [List.getD, hlt]
      have hdr : l0.drop kk = l0[kk] :: l0.drop (kk + 1) := List.drop_eq_getElem_cons hlt
      generalize hy : rd_T88 l0 (kk : Int) = y at hx0 hx1 hx2 hcall hrd
      have E := Aside0.mk hrd
      have D := Aside0.mk hdr
      clear hrd hdr hy
      cases hq : p y with
      | true =>
        rw [hq] at hcall
        have Q := Aside0.mk hq
        clear hq
        go_wp2_with (go_at_fn g; refine hcall.mono ?_; rintro e w' ⟨rfl, hb'⟩)
        go_ret
        refine ⟨?_, BW.out.trans (hb'.mono BW.out.size)⟩
        rw [A.out, D.out, ← E.out]; simp [idxFrom, Q.out]
      | false =>
        rw [hq] at hcall
        have Q := Aside0.mk hq
        clear hq
        go_wp2_with (go_at_fn g; refine hcall.mono ?_; rintro e w' ⟨rfl, hb'⟩)
        go_roundg (l0.length - (kk + 1))
        case measure => omega
        case rel => exact ⟨kk + 1, by omega, by omega, by go_num, ⟨BW.out.trans (hb'.mono BW.out.size)⟩, ⟨by rw [A.out, D.out, ← E.out]; simp [idxFrom, Q.out]⟩⟩
    · have hltz : ¬ (kk : Int) < (l0.length : Int) := by omega
      have : kk = l0.length := by omega
      subst this
      go_wp2
      go_ret
      refine ⟨?_, BW.out⟩
      rw [A.out]; simp [idxFrom]
theorem egIFy : ∀ args w, (callFunc 207 args).run Try.prog w = .ok (.enter 207 args) w := enters_of Try.func207 (by kernel_rfl) rfl
theorem egACy : ∀ args w, (callFunc 187 args).run Try.prog w = .ok (.enter 187 args) w := enters_of Try.func187 (by kernel_rfl) rfl
set_option maxHeartbeats 1000000 in
theorem CFy (p : S88 → Bool) (g : Nat) (lb : Array Value) (eg : ∀ args w, (callFunc g args).run Try.prog w = .ok (.enter g args) w) (A0 : Option Addr) (c0 : Nat) (l0 : List S88) (w : World)
    (hr0 : Kd.C k88 w A0 l0.length l0) (hlen : (l0.length : Int) ≤ 4611686018427387904)
    (hp : ∀ (x : S88) (W : World), Below w.heap.size w W → Calls Try.prog g (#[.agg #[.int .i16 x.f0, .int .i16 x.f1, .int .i16 x.f2]] ++ lb) W fun e w' => e = .returned (.bool (p x)) ∧ Below W.heap.size W w') :
    Calls Try.prog 186 #[.slice A0 l0.length c0, .func (.func g) #[] lb] w fun e w' => e = .returned (.bool (l0.any p)) ∧ Below w.heap.size w w' := by
  have hc := IFy p g lb eg A0 c0 l0 w hr0 hlen hp
  have HA := Aside0.mk (idxFrom_any p l0 0 (by omega))
  clear hr0 hp
  generalize idxFrom p l0 0 = r at hc HA
  generalize l0.any p = s at HA
  go_enter Try.func186, Try.ntmps186
  go_wp2_with (go_at_call 207; refine hc.mono ?_; rintro e w' ⟨rfl, hb'⟩)
  go_ret
  exact ⟨by rw [← HA.out]; rfl, hb'⟩
set_option maxHeartbeats 1000000 in
theorem ACy (q : S88 → Bool) (g : Nat) (lb : Array Value) (eg : ∀ args w, (callFunc g args).run Try.prog w = .ok (.enter g args) w) (B : Nat) (w : World) (hB : B < w.heap.size) (hcell : w.cell? ⟨B, 0, none⟩ = some (.func (.func g) #[] lb))
    (hq : ∀ (x : S88) (W : World), Below w.heap.size w W → Calls Try.prog g (#[.agg #[.int .i16 x.f0, .int .i16 x.f1, .int .i16 x.f2]] ++ lb) W fun e w' => e = .returned (.bool (q x)) ∧ Below W.heap.size W w')
    (x : S88) (W : World) (hb : Below w.heap.size w W) :
    Calls Try.prog 187 (#[.agg #[.int .i16 x.f0, .int .i16 x.f1, .int .i16 x.f2]] ++ #[.pointer (some ⟨B, 0, none⟩)]) W fun e w' => e = .returned (.bool (!q x)) ∧ Below W.heap.size W w' := by
  have hc : W.cell? ⟨B, 0, none⟩ = some (.func (.func g) #[] lb) := (hb.cell (p := ⟨B, 0, none⟩) hB).trans hcell
  have hBW : B < W.heap.size := Nat.lt_of_lt_of_le hB hb.size
  have hne : B ≠ W.heap.size := by omega
  have hcall := hq x (W.alloc (.cells #[.int .i16 x.f0, .int .i16 x.f1, .int .i16 x.f2] 88)) (hb.alloc hb.size _)
  clear hq
  have hb1 : Below W.heap.size W (W.alloc (.cells #[.int .i16 x.f0, .int .i16 x.f1, .int .i16 x.f2] 88)) := (Below.refl _ W).alloc (Nat.le_refl _) _
  generalize q x = r at hcall
  show Calls Try.prog 187 #[.agg #[.int .i16 x.f0, .int .i16 x.f1, .int .i16 x.f2], .pointer (some ⟨B, 0, none⟩)] W _
  go_enter Try.func187, Try.ntmps187
  go_wp2_with (go_at_fn g; refine hcall.mono ?_; rintro e w' ⟨rfl, hb'⟩)
  go_ret
  exact ⟨rfl, hb1.trans (hb'.mono (by simp))⟩
set_option maxHeartbeats 1000000 in
theorem AAy (q : S88 → Bool) (g : Nat) (lb : Array Value) (eg : ∀ args w, (callFunc g args).run Try.prog w = .ok (.enter g args) w) (A0 : Option Addr) (c0 : Nat) (l0 : List S88) (w : World)
    (hr0 : Kd.C k88 w A0 l0.length l0) (hlen : (l0.length : Int) ≤ 4611686018427387904)
    (hq : ∀ (x : S88) (W : World), Below w.heap.size w W → Calls Try.prog g (#[.agg #[.int .i16 x.f0, .int .i16 x.f1, .int .i16 x.f2]] ++ lb) W fun e w' => e = .returned (.bool (q x)) ∧ Below W.heap.size W w') :
    Calls Try.prog 149 #[.slice A0 l0.length c0, .func (.func g) #[] lb] w fun e w' => e = .returned (.bool (l0.all q)) ∧ Below w.heap.size w w' := by
  have hb1 : Below w.heap.size w (w.alloc (.cells #[.func (.func g) #[] lb] 187)) := (Below.refl _ w).alloc (Nat.le_refl _) _
  have hc := CFy (fun x => !q x) 187 #[.pointer (some ⟨w.heap.size, 0, none⟩)] egACy A0 c0 l0 (w.alloc (.cells #[.func (.func g) #[] lb] 187)) (Kd.C_alloc hr0 _) hlen
    (fun x W hW => ACy q g lb eg w.heap.size _ (by simp) (by simp) (fun x W hW => hq x W (hb1.trans (hW.mono (by simp)))) x W hW)
  have HA := Aside0.mk (show (!l0.any fun x => !q x) = l0.all q by rw [List.all_eq_not_any_not])
  clear hr0 hq
  generalize l0.any (fun x => !q x) = r at hc HA
  go_enter Try.func149, Try.ntmps149
  go_wp2_with (go_at_call 186; refine hc.mono ?_; rintro e w' ⟨rfl, hb'⟩)
  go_ret
  exact ⟨by rw [← HA.out]; rfl, hb1.trans (hb'.mono (by simp))⟩
def vYarn (x : S88) : Bool := (impl_ValidYarn.f x.f0 x.f1 x.f2).getD false
theorem vYarn_f (x : S88) : impl_ValidYarn.f x.f0 x.f1 x.f2 = some (vYarn x) := by
  unfold vYarn impl_ValidYarn.f impl_within.f
  by_cases h1 : 1 ≤ wrap64 x.f0 <;> by_cases h2 : -2000 ≤ wrap64 x.f1 <;> by_cases h3 : 1 ≤ wrap64 x.f2 <;> simp [h1, h2, h3] <;> split <;> (try rfl) <;> split <;> rfl
theorem vYarn_calls (x : S88) (W : World) : Calls Try.prog 150 (#[.agg #[.int .i16 x.f0, .int .i16 x.f1, .int .i16 x.f2]] ++ #[]) W fun e w' => e = .returned (.bool (vYarn x)) ∧ Below W.heap.size W w' :=
  impl_ValidYarn.calls x.f0 x.f1 x.f2 (vYarn x) W (vYarn_f x)
theorem egVy : ∀ args w, (callFunc 150 args).run Try.prog w = .ok (.enter 150 args) w := enters_of Try.func150 (by kernel_rfl) rfl
def impl_yarnsCode.f (l0 : List S88) (a1 : Bool) : Option Int := if (l0.length : Int) ≤ 4611686018427387904 then (some (if l0.all vYarn = true then (if a1 = true then (if (l0.length : Int) > 10 then 3 else 0) else 2) else 1)) else none
set_option maxHeartbeats 1000000 in
theorem impl_yarnsCode.calls (A0 : Option Addr) (c0 : Nat) (l0 : List S88) (a1 : Bool) (r : Int) (w : World) (hr0 : Kd.C k88 w A0 l0.length l0) (hc0 : l0.length ≤ c0) (h : impl_yarnsCode.f l0 a1 = some r) :
    Calls Try.prog 88 #[.slice A0 l0.length c0, .bool a1] w fun e w' => e = .returned (.int .i64 r) ∧ Below w.heap.size w w' := by
  unfold impl_yarnsCode.f at h
  by_cases hlen : (l0.length : Int) ≤ 4611686018427387904
  · rw [if_pos hlen] at h
    have hq := fun (W : World) => AAy vYarn 150 #[] egVy A0 c0 l0 w hr0 hlen (fun x W _ => vYarn_calls x W)
    have hcall := hq w
    clear hq hr0
    have hr := Aside0.mk (Option.some.inj h)
    clear h
    generalize l0.all vYarn = b at hcall hr
    cases b with
    | false =>
      go_enter Try.func88, Try.ntmps88
      go_wp2_with (go_at_call 149; refine hcall.mono ?_; rintro e w' ⟨rfl, hb'⟩)
      go_ret
      exact ⟨by rw [← hr.out]; rfl, hb'⟩
    | true =>
      cases a1 with
      | false =>
        go_enter Try.func88, Try.ntmps88
        go_wp2_with (go_at_call 149; refine hcall.mono ?_; rintro e w' ⟨rfl, hb'⟩)
        go_ret
        exact ⟨by rw [← hr.out]; rfl, hb'⟩
      | true =>
        by_cases hl : (l0.length : Int) > 10
        · have hl2 : decide (10 < l0.length) = true := decide_eq_true (by omega)
          have hl1 : decide ((10 : Int) < (l0.length : Int)) = true := decide_eq_true (by omega)
          have hl' := Aside0.mk hl
          clear hl
          go_enter Try.func88, Try.ntmps88
          go_wp2_with (go_at_call 149; refine hcall.mono ?_; rintro e w' ⟨rfl, hb'⟩)
          go_ret
          exact ⟨by rw [← hr.out]; simp [hl'.out], hb'⟩
        · have hl2 : decide (10 < l0.length) = false := decide_eq_false (by omega)
          have hl1 : decide ((10 : Int) < (l0.length : Int)) = false := decide_eq_false (by omega)
          have hl' := Aside0.mk hl
          clear hl
          go_enter Try.func88, Try.ntmps88
          go_wp2_with (go_at_call 149; refine hcall.mono ?_; rintro e w' ⟨rfl, hb'⟩)
          go_ret
          exact ⟨by rw [← hr.out]; simp [hl'.out], hb'⟩
  · rw [if_neg hlen] at h
    cases h

/-! ### slices_IndexFunc_int64_int64: function 206 -/
@[reducible] def slices_IndexFunc_int64_int64.f (l0 : List Int) (q : Int → Option Bool) : Option Int := idxG l0 q
set_option maxHeartbeats 2000000 in
theorem slices_IndexFunc_int64_int64.calls (A0 : Option Addr) (c0 : Nat) (l0 : List Int) (q : Int → Option Bool) (g : Nat) (lb : Array Value) (eg : ∀ args w, (callFunc g args).run Try.prog w = .ok (.enter g args) w) (r : Int) (w : World) (hr0 : Kd.C (Kd.int .i64) w A0 l0.length l0) (hc0 : l0.length ≤ c0) (hp : ∀ (x : Int) (b : Bool) (W : World), Below w.heap.size w W → q x = some b → Calls Try.prog g (#[.int .i64 x] ++ lb) W fun e w' => e = .returned (.bool b) ∧ Below W.heap.size W w') (h : slices_IndexFunc_int64_int64.f l0 q = some r) :
    Calls Try.prog 206 #[.slice A0 l0.length c0, .func (.func g) #[] lb] w fun e w' => e = .returned (.int .i64 r) ∧ Below w.heap.size w w' := by
  have h : idxG l0 q = some r := h
  unfold idxG at h
  split at h
  next hlen =>
    have HR0 := Aside0.mk hr0
    have HP := Aside0.mk hp
    have HH := Aside0.mk h
    clear hr0 hp h
    go_enter Try.func206, Try.ntmps206
    go_wp2
    go_loopg [5, 8] l0.length (fun gg _ v8 wr => ∃ kk : Nat, kk ≤ l0.length ∧ l0.length - kk ≤ gg ∧ v8 = .int .i64 kk ∧ Aside0 (Below w.heap.size w wr) ∧ Aside0 (idxO q (l0.drop kk) kk = some r))
    case atStart => exact ⟨0, Nat.zero_le _, by omega, rfl, ⟨Below.refl _ w⟩, ⟨by simpa using HH.out⟩⟩
    case round =>
      clear HH
      obtain ⟨kk, hkk, hg, rfl, BW, HA⟩ := hrel
      by_cases hlt : kk < l0.length
      · have hltz : (kk : Int) < (l0.length : Int) := by omega
        obtain ⟨ad, e, hx0⟩ := Kd.at_int HR0.out (kk : Int) (by omega) (by omega)
        cases e
        simp only [Int.toNat_natCast] at hx0
        replace hx0 := (BW.out.cell (World.block_lt_of_cell? w _ hx0)).trans hx0
        have hrd : rd l0 (kk : Int) = l0[kk] := by unfold rd; simp [List.getD, hlt]
        have hA := HA.out
        rw [List.drop_eq_getElem_cons hlt] at hA
        simp only [idxO] at hA
        obtain ⟨b, hb, hA⟩ := Option.bind_eq_some_iff.mp hA
        rw [← hrd] at hb
        have hcall := HP.out (rd l0 (kk : Int)) b wr BW.out hb
        clear hrd hb
        generalize rd l0 (kk : Int) = y at hx0 hcall
        have HA2 := Aside0.mk hA
        clear hA
        cases b with
        | true =>
          go_wp2_with (go_at_fn g; refine hcall.mono ?_; rintro e w' ⟨rfl, hb'⟩)
          go_ret
          have hr : (kk : Int) = r := by have := HA2.out; simpa using this
          exact ⟨by subst hr; rfl, BW.out.trans (hb'.mono BW.out.size)⟩
        | false =>
          go_wp2_with (go_at_fn g; refine hcall.mono ?_; rintro e w' ⟨rfl, hb'⟩)
          go_roundg (l0.length - (kk + 1))
          case measure => omega
          case rel => exact ⟨kk + 1, by omega, by omega, by go_num, ⟨BW.out.trans (hb'.mono BW.out.size)⟩, ⟨by have := HA2.out; simpa using this⟩⟩
      · have hltz : ¬ (kk : Int) < (l0.length : Int) := by omega
        have : kk = l0.length := by omega
        subst this
        have hr : (-1 : Int) = r := by have := HA.out; simpa [idxO] using this
        go_wp2
        go_ret
        exact ⟨by subst hr; rfl, BW.out⟩
  next => cases h
theorem slices_IndexFunc_int64_int64.eg : ∀ args w, (callFunc 206 args).run Try.prog w = .ok (.enter 206 args) w := enters_of Try.func206 (by kernel_rfl) rfl

/-! ### slices_ContainsFunc_int64_int64: function 184 -/
@[reducible] def slices_ContainsFunc_int64_int64.f (l0 : List Int) (q : Int → Option Bool) : Option Bool := (idxG l0 q).bind fun j => some (decide (0 ≤ j))
set_option maxHeartbeats 1000000 in
theorem slices_ContainsFunc_int64_int64.calls (A0 : Option Addr) (c0 : Nat) (l0 : List Int) (q : Int → Option Bool) (g : Nat) (lb : Array Value) (eg : ∀ args w, (callFunc g args).run Try.prog w = .ok (.enter g args) w) (r : Bool) (w : World) (hr0 : Kd.C (Kd.int .i64) w A0 l0.length l0) (hc0 : l0.length ≤ c0) (hp : ∀ (x : Int) (b : Bool) (W : World), Below w.heap.size w W → q x = some b → Calls Try.prog g (#[.int .i64 x] ++ lb) W fun e w' => e = .returned (.bool b) ∧ Below W.heap.size W w') (h : slices_ContainsFunc_int64_int64.f l0 q = some r) :
    Calls Try.prog 184 #[.slice A0 l0.length c0, .func (.func g) #[] lb] w fun e w' => e = .returned (.bool r) ∧ Below w.heap.size w w' := by
  obtain ⟨j, hj, hr⟩ := Option.bind_eq_some_iff.mp h
  have hc := slices_IndexFunc_int64_int64.calls A0 c0 l0 q g lb eg j w hr0 hc0 hp hj
  have HR := Aside0.mk (Option.some.inj hr)
  clear hr0 hp h hj hr
  go_enter Try.func184, Try.ntmps184
  go_wp2_with (go_at_call 206; refine hc.mono ?_; rintro e w' ⟨rfl, hb'⟩)
  go_ret
  exact ⟨by rw [← HR.out]; rfl, hb'⟩

/-! ### impl_areAll_int64_1: function 185 -/
theorem impl_areAll_int64_1.eg : ∀ args w, (callFunc 185 args).run Try.prog w = .ok (.enter 185 args) w := enters_of Try.func185 (by kernel_rfl) rfl
set_option maxHeartbeats 1000000 in
theorem impl_areAll_int64_1.calls (q : Int → Option Bool) (g : Nat) (lb : Array Value) (eg : ∀ args w, (callFunc g args).run Try.prog w = .ok (.enter g args) w) (B : Nat) (w : World) (hB : B < w.heap.size) (hcell : w.cell? ⟨B, 0, none⟩ = some (.func (.func g) #[] lb))
    (hp : ∀ (x : Int) (b : Bool) (W : World), Below w.heap.size w W → q x = some b → Calls Try.prog g (#[.int .i64 x] ++ lb) W fun e w' => e = .returned (.bool b) ∧ Below W.heap.size W w') (x : Int) (b : Bool) (W : World) (hb : Below w.heap.size w W) (hq : (q x).map (!·) = some b) :
    Calls Try.prog 185 (#[.int .i64 x] ++ #[.pointer (some ⟨B, 0, none⟩)]) W fun e w' => e = .returned (.bool b) ∧ Below W.heap.size W w' := by
  obtain ⟨b', hq', hbb⟩ := Option.map_eq_some_iff.mp hq
  have hc : W.cell? ⟨B, 0, none⟩ = some (.func (.func g) #[] lb) := (hb.cell (p := ⟨B, 0, none⟩) hB).trans hcell
  have hBW : B < W.heap.size := Nat.lt_of_lt_of_le hB hb.size
  have hne : B ≠ W.heap.size := by omega
  have hcall := hp x b' W hb hq'
  have HQ := Aside0.mk hbb
  clear hp hq hq' hbb
  show Calls Try.prog 185 #[.int .i64 x, .pointer (some ⟨B, 0, none⟩)] W _
  go_enter Try.func185, Try.ntmps185
  go_wp2_with (go_at_fn g; refine hcall.mono ?_; rintro e w' ⟨rfl, hb'⟩)
  go_ret
  exact ⟨by rw [← HQ.out]; rfl, hb'⟩

/-! ### impl_areAll_int64: function 144 -/
@[reducible] def impl_areAll_int64.f (l0 : List Int) (q : Int → Option Bool) : Option Bool := allG l0 q
set_option maxHeartbeats 1000000 in
theorem impl_areAll_int64.calls (A0 : Option Addr) (c0 : Nat) (l0 : List Int) (q : Int → Option Bool) (g : Nat) (lb : Array Value) (eg : ∀ args w, (callFunc g args).run Try.prog w = .ok (.enter g args) w) (r : Bool) (w : World) (hr0 : Kd.C (Kd.int .i64) w A0 l0.length l0) (hc0 : l0.length ≤ c0) (hp : ∀ (x : Int) (b : Bool) (W : World), Below w.heap.size w W → q x = some b → Calls Try.prog g (#[.int .i64 x] ++ lb) W fun e w' => e = .returned (.bool b) ∧ Below W.heap.size W w') (h : impl_areAll_int64.f l0 q = some r) :
    Calls Try.prog 144 #[.slice A0 l0.length c0, .func (.func g) #[] lb] w fun e w' => e = .returned (.bool r) ∧ Below w.heap.size w w' := by
  obtain ⟨j, hj, hr⟩ := idxG_all q l0 r h
  have hb1 : Below w.heap.size w (w.alloc (.cells #[.func (.func g) #[] lb] 152)) := (Below.refl _ w).alloc (Nat.le_refl _) _
  have hc := slices_ContainsFunc_int64_int64.calls A0 c0 l0 (fun x => (q x).map (!·)) 185 #[.pointer (some ⟨w.heap.size, 0, none⟩)] impl_areAll_int64_1.eg (decide (0 ≤ j)) (w.alloc (.cells #[.func (.func g) #[] lb] 152)) (Kd.C_alloc hr0 _) hc0
    (fun x b W hW hq => impl_areAll_int64_1.calls q g lb eg w.heap.size _ (by simp) (by simp) (fun x b W hW hq => hp x b W (hb1.trans (hW.mono (by simp))) hq) x b W hW hq) (by show (idxG l0 _).bind _ = _; rw [hj]; rfl)
  have HR := Aside0.mk hr
  clear hr0 hp h hj hr
  generalize decide (0 ≤ j) = jj at hc HR
  go_enter Try.func144, Try.ntmps144
  go_wp2_with (go_at_call 184; refine hc.mono ?_; rintro e w' ⟨rfl, hb'⟩)
  go_ret
  exact ⟨by rw [← HR.out]; rfl, hb1.trans (hb'.mono (by simp))⟩

/-! ### impl_cutsCode_1: function 151 -/
def impl_cutsCode_1.f (a0 : Int) : Option (Bool) := (impl_within.f a0 1 5000).bind fun t143 => (some t143)
set_option maxHeartbeats 8000000 in
set_option maxRecDepth 100000 in
theorem impl_cutsCode_1.calls (a0 : Int) (r : Bool) (w : World) (h : impl_cutsCode_1.f a0 = some r) :
    Calls Try.prog 151 #[.int .i64 a0] w fun e w' => e = .returned (.bool r) ∧ Drawn0 w w' := by
  have H : ((impl_within.f a0 1 5000).bind fun t143 => (some t143)) = some r := h
  clear h
  replace H := Option.bind_eq_some_iff.mp H
  obtain ⟨t143, A20, H⟩ := H
  replace H : (some t143) = some r := H
  have A2 := Aside0.mk A20
  clear A20
  obtain rfl := Option.some.inj H
  go_enter Try.func151, Try.ntmps151
  go_wp2_with (first | ((with_reducible refine gate_callee (f := 89) rfl ?_); refine goesL_ (some 4) rfl rfl Try.func89 (by kernel_rfl) rfl #[.int .i64 a0, .int .i64 1, .int .i64 5000] rfl (by (try simp only [List.map_toArray, List.map_cons, List.map_nil]); first | done | rfl | (simp only [List.length_drop, List.length_take]; rfl)) ?_; (with_reducible refine (impl_within.calls a0 1 5000 t143 _ A2.out).mono ?_); rintro e w' ⟨rfl, ⟨nd, rfl⟩⟩; refine ⟨_, rfl, ?_⟩))
  go_ret
  exact ⟨by first | rfl | (simp; done) | (simp [*]; done), by repeat (first | exact Drawn0.refl _ | apply Drawn0.step)⟩

theorem impl_cutsCode.eg151 : ∀ args w, (callFunc 151 args).run Try.prog w = .ok (.enter 151 args) w := enters_of Try.func151 (by kernel_rfl) rfl
/-! ### impl_cutsCode: function 97 -/
def impl_cutsCode.f (l0 : List (S88)) (l1 : List Int) : Option (Int) := (impl_areAll_int64.f l1 (fun x_ => impl_cutsCode_1.f x_)).bind fun t144 => ((impl_yarnsCode.f l0 t144).bind fun t145 => (if t145 = 0 then (if (l1.length : Int) > 6 then (some 3) else (some 0)) else (some t145)))
set_option maxHeartbeats 8000000 in
set_option maxRecDepth 100000 in
theorem impl_cutsCode.calls (A0 : Option Addr) (c0 : Nat) (l0 : List (S88)) (A1 : Option Addr) (c1 : Nat) (l1 : List Int) (r : Int) (w : World) (hr0 : Kd.C k88 w A0 l0.length l0) (hc0 : l0.length ≤ c0) (hr1 : Kd.C (Kd.int .i64) w A1 l1.length l1) (hc1 : l1.length ≤ c1) (h : impl_cutsCode.f l0 l1 = some r) :
    Calls Try.prog 97 #[.slice A0 l0.length c0, .slice A1 l1.length c1] w fun e w' => e = .returned (.int .i64 r) ∧ Below w.heap.size w w' := by
  have HR0 := Aside0.mk hr0
  have HC0 := Aside0.mk hc0
  clear hr0 hc0
  have HR1 := Aside0.mk hr1
  have HC1 := Aside0.mk hc1
  clear hr1 hc1
  have HB := Aside0.mk (Below.refl w.heap.size w)
  have H : ((impl_areAll_int64.f l1 (fun x_ => impl_cutsCode_1.f x_)).bind fun t144 => ((impl_yarnsCode.f l0 t144).bind fun t145 => (if t145 = 0 then (if (l1.length : Int) > 6 then (some 3) else (some 0)) else (some t145)))) = some r := h
  clear h
  replace H := Option.bind_eq_some_iff.mp H
  obtain ⟨t144, A30, H⟩ := H
  replace H : ((impl_yarnsCode.f l0 t144).bind fun t145 => (if t145 = 0 then (if (l1.length : Int) > 6 then (some 3) else (some 0)) else (some t145))) = some r := H
  have A3 := Aside0.mk A30
  clear A30
  replace H := Option.bind_eq_some_iff.mp H
  obtain ⟨t145, A40, H⟩ := H
  replace H : (if t145 = 0 then (if (l1.length : Int) > 6 then (some 3) else (some 0)) else (some t145)) = some r := H
  have A4 := Aside0.mk A40
  clear A40
  by_cases c5 : t145 = 0
  · rw [if_pos c5] at H
    have c5b0 : (t145 == 0) = true := beq_iff_eq.mpr c5
    have c5b1 : (t145 != 0) = false := bne_eq_false_iff_eq.mpr c5
    clear c5
    by_cases c6 : (l1.length : Int) > 6
    · rw [if_pos c6] at H
      have c6b0 : decide (6 < (l1.length : Int)) = true := decide_eq_true c6
      have c6b1 : decide (6 < l1.length) = true := decide_eq_true (by omega)
      clear c6
      obtain rfl := Option.some.inj H
      go_enter Try.func97, Try.ntmps97
      go_wp2_with (first | ((with_reducible refine gate_callee (f := 144) rfl ?_); refine goesL_ (some 8) rfl rfl Try.func144 (by kernel_rfl) rfl #[.slice A1 l1.length c1, .func (.func 151) #[] #[]] rfl (by (try simp only [List.map_toArray, List.map_cons, List.map_nil]); first | done | rfl | (simp only [List.length_drop, List.length_take]; rfl)) ?_; (with_reducible refine (impl_areAll_int64.calls _ _ l1 (fun x_ => impl_cutsCode_1.f x_) 151 #[] impl_cutsCode.eg151 t144 _ ?side1 ?side2 ?side3 A3.out).mono ?_); (case side1 => repeat (first | exact HR1.out | (with_reducible refine Kd.C_alloc ?_ _) | (with_reducible refine Kd.C_drewN ?_ _) | (with_reducible refine Kd.C_drew ?_))); (case side2 => exact HC1.out); (case side3 => exact fun x_ b_ W_ hW_ h_ => (impl_cutsCode_1.calls x_ b_ W_ (h := h_)).mono (fun _ _ z_ => ⟨z_.1, by obtain ⟨nd_, hd_⟩ := z_.2; subst hd_; exact pw_below_drewN (Below.refl _ _) nd_⟩)); rintro e w7 ⟨rfl, hb⟩; refine ⟨_, rfl, ?_⟩; have n0_ := Aside0.mk (below_step (by repeat (first | (with_reducible first | exact HB.out | apply below_alloc | apply pw_below_drewN | apply below_drew1) | exact HB.out)) hb); clear HB; have HB := n0_; clear n0_; (try clear hb); (try clear hb2); (try clear hk); (try clear hi)) | ((with_reducible refine gate_callee (f := 88) rfl ?_); refine goesL_ (some 9) rfl rfl Try.func88 (by kernel_rfl) rfl #[.slice A0 l0.length c0, .bool t144] rfl (by (try simp only [List.map_toArray, List.map_cons, List.map_nil]); first | done | rfl | (simp only [List.length_drop, List.length_take]; rfl)) ?_; (with_reducible refine (impl_yarnsCode.calls _ _ l0 t144 t145 _ ?side1 ?side2 A4.out).mono ?_); (case side1 => repeat (first | exact (Kd.C_below HR0.out HB.out) | (with_reducible refine Kd.C_alloc ?_ _) | (with_reducible refine Kd.C_drewN ?_ _) | (with_reducible refine Kd.C_drew ?_))); (case side2 => exact HC0.out); rintro e w8 ⟨rfl, hb⟩; refine ⟨_, rfl, ?_⟩; have n0_ := Aside0.mk (below_step (by repeat (first | (with_reducible first | exact HB.out | apply below_alloc | apply pw_below_drewN | apply below_drew1) | exact HB.out)) hb); clear HB; have HB := n0_; clear n0_; (try clear hb); (try clear hb2); (try clear hk); (try clear hi)))
      go_ret
      exact ⟨by first | rfl | (simp [errW_none, errW_some] <;> rfl) | (simp [*, errW_none, errW_some] <;> rfl), by repeat (first | (with_reducible first | exact HB.out | apply below_alloc | apply pw_below_drewN | apply below_drew1) | exact HB.out)⟩
    · rw [if_neg c6] at H
      have c6b0 : decide (6 < (l1.length : Int)) = false := decide_eq_false c6
      have c6b1 : decide (6 < l1.length) = false := decide_eq_false (by omega)
      clear c6
      obtain rfl := Option.some.inj H
      go_enter Try.func97, Try.ntmps97
      go_wp2_with (first | ((with_reducible refine gate_callee (f := 144) rfl ?_); refine goesL_ (some 8) rfl rfl Try.func144 (by kernel_rfl) rfl #[.slice A1 l1.length c1, .func (.func 151) #[] #[]] rfl (by (try simp only [List.map_toArray, List.map_cons, List.map_nil]); first | done | rfl | (simp only [List.length_drop, List.length_take]; rfl)) ?_; (with_reducible refine (impl_areAll_int64.calls _ _ l1 (fun x_ => impl_cutsCode_1.f x_) 151 #[] impl_cutsCode.eg151 t144 _ ?side1 ?side2 ?side3 A3.out).mono ?_); (case side1 => repeat (first | exact HR1.out | (with_reducible refine Kd.C_alloc ?_ _) | (with_reducible refine Kd.C_drewN ?_ _) | (with_reducible refine Kd.C_drew ?_))); (case side2 => exact HC1.out); (case side3 => exact fun x_ b_ W_ hW_ h_ => (impl_cutsCode_1.calls x_ b_ W_ (h := h_)).mono (fun _ _ z_ => ⟨z_.1, by obtain ⟨nd_, hd_⟩ := z_.2; subst hd_; exact pw_below_drewN (Below.refl _ _) nd_⟩)); rintro e w9 ⟨rfl, hb⟩; refine ⟨_, rfl, ?_⟩; have n0_ := Aside0.mk (below_step (by repeat (first | (with_reducible first | exact HB.out | apply below_alloc | apply pw_below_drewN | apply below_drew1) | exact HB.out)) hb); clear HB; have HB := n0_; clear n0_; (try clear hb); (try clear hb2); (try clear hk); (try clear hi)) | ((with_reducible refine gate_callee (f := 88) rfl ?_); refine goesL_ (some 9) rfl rfl Try.func88 (by kernel_rfl) rfl #[.slice A0 l0.length c0, .bool t144] rfl (by (try simp only [List.map_toArray, List.map_cons, List.map_nil]); first | done | rfl | (simp only [List.length_drop, List.length_take]; rfl)) ?_; (with_reducible refine (impl_yarnsCode.calls _ _ l0 t144 t145 _ ?side1 ?side2 A4.out).mono ?_); (case side1 => repeat (first | exact (Kd.C_below HR0.out HB.out) | (with_reducible refine Kd.C_alloc ?_ _) | (with_reducible refine Kd.C_drewN ?_ _) | (with_reducible refine Kd.C_drew ?_))); (case side2 => exact HC0.out); rintro e w10 ⟨rfl, hb⟩; refine ⟨_, rfl, ?_⟩; have n0_ := Aside0.mk (below_step (by repeat (first | (with_reducible first | exact HB.out | apply below_alloc | apply pw_below_drewN | apply below_drew1) | exact HB.out)) hb); clear HB; have HB := n0_; clear n0_; (try clear hb); (try clear hb2); (try clear hk); (try clear hi)))
      go_ret
      exact ⟨by first | rfl | (simp [errW_none, errW_some] <;> rfl) | (simp [*, errW_none, errW_some] <;> rfl), by repeat (first | (with_reducible first | exact HB.out | apply below_alloc | apply pw_below_drewN | apply below_drew1) | exact HB.out)⟩
  · rw [if_neg c5] at H
    have c5b0 : (t145 == 0) = false := beq_eq_false_iff_ne.mpr c5
    have c5b1 : (t145 != 0) = true := bne_iff_ne.mpr c5
    obtain rfl := Option.some.inj H
    go_enter Try.func97, Try.ntmps97
    go_wp2_with (first | ((with_reducible refine gate_callee (f := 144) rfl ?_); refine goesL_ (some 8) rfl rfl Try.func144 (by kernel_rfl) rfl #[.slice A1 l1.length c1, .func (.func 151) #[] #[]] rfl (by (try simp only [List.map_toArray, List.map_cons, List.map_nil]); first | done | rfl | (simp only [List.length_drop, List.length_take]; rfl)) ?_; (with_reducible refine (impl_areAll_int64.calls _ _ l1 (fun x_ => impl_cutsCode_1.f x_) 151 #[] impl_cutsCode.eg151 t144 _ ?side1 ?side2 ?side3 A3.out).mono ?_); (case side1 => repeat (first | exact HR1.out | (with_reducible refine Kd.C_alloc ?_ _) | (with_reducible refine Kd.C_drewN ?_ _) | (with_reducible refine Kd.C_drew ?_))); (case side2 => exact HC1.out); (case side3 => exact fun x_ b_ W_ hW_ h_ => (impl_cutsCode_1.calls x_ b_ W_ (h := h_)).mono (fun _ _ z_ => ⟨z_.1, by obtain ⟨nd_, hd_⟩ := z_.2; subst hd_; exact pw_below_drewN (Below.refl _ _) nd_⟩)); rintro e w11 ⟨rfl, hb⟩; refine ⟨_, rfl, ?_⟩; have n0_ := Aside0.mk (below_step (by repeat (first | (with_reducible first | exact HB.out | apply below_alloc | apply pw_below_drewN | apply below_drew1) | exact HB.out)) hb); clear HB; have HB := n0_; clear n0_; (try clear hb); (try clear hb2); (try clear hk); (try clear hi)) | ((with_reducible refine gate_callee (f := 88) rfl ?_); refine goesL_ (some 9) rfl rfl Try.func88 (by kernel_rfl) rfl #[.slice A0 l0.length c0, .bool t144] rfl (by (try simp only [List.map_toArray, List.map_cons, List.map_nil]); first | done | rfl | (simp only [List.length_drop, List.length_take]; rfl)) ?_; (with_reducible refine (impl_yarnsCode.calls _ _ l0 t144 t145 _ ?side1 ?side2 A4.out).mono ?_); (case side1 => repeat (first | exact (Kd.C_below HR0.out HB.out) | (with_reducible refine Kd.C_alloc ?_ _) | (with_reducible refine Kd.C_drewN ?_ _) | (with_reducible refine Kd.C_drew ?_))); (case side2 => exact HC0.out); rintro e w12 ⟨rfl, hb⟩; refine ⟨_, rfl, ?_⟩; have n0_ := Aside0.mk (below_step (by repeat (first | (with_reducible first | exact HB.out | apply below_alloc | apply pw_below_drewN | apply below_drew1) | exact HB.out)) hb); clear HB; have HB := n0_; clear n0_; (try clear hb); (try clear hb2); (try clear hk); (try clear hi)))
    go_ret
    exact ⟨by first | rfl | (simp [errW_none, errW_some] <;> rfl) | (simp [*, errW_none, errW_some] <;> rfl), by repeat (first | (with_reducible first | exact HB.out | apply below_alloc | apply pw_below_drewN | apply below_drew1) | exact HB.out)⟩

/-! ### impl_longs: function 98 -/
def impl_longs.l0 : Nat → List Int → List (S88) → Int → Int → Option (List Int)
  | 0, _, _, _, _ => none
  | k + 1, x3, x6, x7, x8 => if x8 < x7 then (if 0 ≤ x8 then (if x8 < (x6.length : Int) then (if x3.length < 17592186044416 then (impl_longs.l0 k (x3 ++ [wrap64 ((rd_T88 x6 x8).f0)]) x6 x7 (wrap64 (x8 + 1))) else (none)) else (none)) else (none)) else (some x3)
def impl_longs.f (k : Nat) (l0 : List (S88)) : Option (List Int) := impl_longs.l0 k ([] : List Int) l0 (l0.length : Int) 0
theorem impl_longs.mono_l : ∀ k, (∀ y0 y1 y2 y3, LeO (impl_longs.l0 k y0 y1 y2 y3) (impl_longs.l0 (k + 1) y0 y1 y2 y3))
  | 0 => fun _ _ _ _ r h => by simp [impl_longs.l0] at h
  | k + 1 => by
    have ih0 := impl_longs.mono_l k
    · intro y0 y1 y2 y3
      unfold impl_longs.l0
      repeat' first
      | (with_reducible exact ih0 _ _ _ _)
      | (with_reducible exact LeO.refl _)
      | (with_reducible exact LeO.none _)
      | (with_reducible refine LeO.ite ?_ ?_)
      | (with_reducible refine LeO.bind ?_ (fun _ => ?_))
      | (with_reducible refine allG_mono _ (fun _ => ?_))
      | (with_reducible refine idxG_mono _ (fun _ => ?_))
      | exact ih0 _ _ _ _
      | exact LeO.none _
      | refine LeO.ite ?_ ?_
      | refine LeO.bind ?_ (fun _ => ?_)
theorem impl_longs.mono : ∀ a0 k, LeO (impl_longs.f k a0) (impl_longs.f (k + 1) a0) := by
  intro a0 k
  have ih0 := impl_longs.mono_l k
  unfold impl_longs.f
  repeat' first
      | (with_reducible exact ih0 _ _ _ _)
      | (with_reducible exact LeO.refl _)
      | (with_reducible exact LeO.none _)
      | (with_reducible refine LeO.ite ?_ ?_)
      | (with_reducible refine LeO.bind ?_ (fun _ => ?_))
      | (with_reducible refine allG_mono _ (fun _ => ?_))
      | (with_reducible refine idxG_mono _ (fun _ => ?_))
      | exact ih0 _ _ _ _
      | exact LeO.none _
      | refine LeO.ite ?_ ?_
      | refine LeO.bind ?_ (fun _ => ?_)
set_option maxHeartbeats 8000000 in
set_option maxRecDepth 100000 in
theorem impl_longs.calls (k : Nat) (A0 : Option Addr) (c0 : Nat) (l0 : List (S88)) (r : List Int) (w : World) (hr0 : Kd.C k88 w A0 l0.length l0) (hc0 : l0.length ≤ c0) (h : impl_longs.f k l0 = some r) :
    Calls Try.prog 98 #[.slice A0 l0.length c0] w fun e w' => ∃ v0_ : Value, e = .returned (v0_) ∧ Kd.R (Kd.int .i64) 2 w' w.heap.size (fun _ => True) v0_ r ∧ Below w.heap.size w w' := by
  have hu88 := Try.underlying88
  have HR0 := Aside0.mk hr0
  have HC0 := Aside0.mk hc0
  clear hr0 hc0
  have HB := Aside0.mk (Below.refl w.heap.size w)
  have H : (impl_longs.l0 k ([] : List Int) l0 (l0.length : Int) 0) = some r := h
  clear h
  have H' := Aside0.mk H
  clear H
  go_enter Try.func98, Try.ntmps98
  go_wp2
  go_loopg [3, 8] k (fun kq v3 v8 w' => ∃ (x3_1 : List Int) (x8_1 : Int), v8 = .int .i64 x8_1 ∧ Aside0 (impl_longs.l0 kq x3_1 l0 (l0.length : Int) x8_1 = some r) ∧ Aside0 (kq ≤ k) ∧ Aside0 (Kd.R (Kd.int .i64) 2 w' w.heap.size (fun _ => True) v3 x3_1) ∧ Aside0 (Below w.heap.size w w'))
  case atStart => exact ⟨(([] : List Int)), (0), (by first | rfl | (simp; done) | (simp [*]; done)), H', ⟨Nat.le_refl _⟩, ⟨by first | exact Kd.R_nil _ _ _ _ _ | exact Kd.N_nil _ _ _ _ _ | exact Kd.V_nil _ _ _ _ _ | exact Kd.Q_nil _ _ _ _ _ | exact Kd.S_nil _ _ _ _ _⟩, ⟨by repeat (first | (with_reducible first | exact HB.out | apply below_alloc | apply pw_below_drewN | apply below_drew1) | exact HB.out)⟩⟩
  case round =>
    clear H'
    obtain ⟨x3_1, x8_1, rfl, HA, HK1, HO_3, HB⟩ := hrel
    cases gk with
    | zero => exact absurd HA.out (by simp [impl_longs.l0])
    | succ k1 =>
      have H := HA.out
      clear HA
      simp only [impl_longs.l0] at H
      by_cases c2 : x8_1 < (l0.length : Int)
      · rw [if_pos c2] at H
        have c2b0 : decide (x8_1 < (l0.length : Int)) = true := decide_eq_true c2
        clear c2
        by_cases c3 : 0 ≤ x8_1
        · rw [if_pos c3] at H
          have c3b0 : decide (0 ≤ x8_1) = true := decide_eq_true c3
          clear c3
          by_cases c4 : x8_1 < (l0.length : Int)
          · rw [if_pos c4] at H
            have c4b0 : decide (x8_1 < (l0.length : Int)) = true := decide_eq_true c4
            clear c4
            by_cases c5 : x3_1.length < 17592186044416
            · rw [if_pos c5] at H
              have LMc5 := Aside0.mk c5
              clear c5
              obtain ⟨y148, hy148⟩ : ∃ y_ : List Int, y_ = (x3_1 ++ [wrap64 ((rd_T88 l0 x8_1).f0)]) := ⟨_, rfl⟩
              replace H : (impl_longs.l0 k1 y148 l0 (l0.length : Int) (wrap64 (x8_1 + 1))) = some r := by first | (rw [hy148]; with_reducible exact H) | (have H2_ := (Option.bind_some _ _).symm.trans H; rw [hy148]; with_reducible exact H2_) | (have H2_ := (Option.bind_some _ _).symm.trans H; with_reducible exact H2_) | with_reducible exact H | (rw [hy148]; exact H) | exact H
              have Ny148 := Aside0.mk hy148
              clear hy148
              have H' := Aside0.mk H
              clear H
              have p146 : 0 ≤ (x8_1 : Int) := of_decide_eq_true (by first | (with_reducible assumption) | assumption)
              have q146 : x8_1 < (l0.length : Int) := of_decide_eq_true (by first | (with_reducible assumption) | assumption)
              obtain ⟨ad146, e146, hx146_0, hx146_1, hx146_2⟩ := at_T88 HR0.out x8_1 p146 q146
              cases e146
              replace hx146_0 := (HB.out.cell (World.block_lt_of_cell? w _ hx146_0)).trans hx146_0
              replace hx146_1 := (HB.out.cell (World.block_lt_of_cell? w _ hx146_1)).trans hx146_1
              replace hx146_2 := (HB.out.cell (World.block_lt_of_cell? w _ hx146_2)).trans hx146_2
              replace p146 := eq_true p146
              replace q146 := eq_true q146
              go_wp2_with (first | ((with_reducible refine gate_dst (N := 5) rfl ?_); refine box_event ?hg (N := 5) ?hd (cs := #[.int .i16 0, .int .i16 0, .int .i16 0]) (t := 88) ?hr ?_; (case hd => rfl); (case hg => rfl); (case hr => first | (go_simp; done) | (go_simp; rfl)); intro gb147 hg w6 hbox hb; have n0_ := Aside0.mk (Kd.R_below (by (with_reducible repeat (first | apply Kd.R_alloc | apply Kd.R_drewN | apply Kd.R_drew)); exact HO_3.out) hb); have n1_ := Aside0.mk (below_step (by repeat (first | (with_reducible first | exact HB.out | apply below_alloc | apply pw_below_drewN | apply below_drew1) | exact HB.out)) hb); have n2_ := Aside0.mk (hbox); have n3_ := Aside0.mk ((by rw [hg]; exact (below_size (by repeat (first | (with_reducible first | exact HB.out | apply below_alloc | apply pw_below_drewN | apply below_drew1) | exact HB.out))) : w.heap.size ≤ gb147)); have n4_ := Aside0.mk ((by rw [hg]; exact (below_size (by repeat (first | (with_reducible first | exact HB.out | apply below_alloc | apply pw_below_drewN | apply below_drew1) | exact HB.out))) : w.heap.size ≤ gb147)); (try clear HO_3); clear HB; have HO_3 := n0_; have HB := n1_; have BK147 := n2_; have GW147 := n3_; have GE147 := n4_; clear n0_ n1_ n2_ n3_ n4_; clear hb hbox hg; have hcz7_0 : w6.cell? ⟨gb147, 0, none⟩ = some (.int .i16 0) := (blk_cell BK147.out 0).trans rfl; have hcz7_1 : w6.cell? ⟨gb147, 1, none⟩ = some (.int .i16 0) := (blk_cell BK147.out 1).trans rfl; have hcz7_2 : w6.cell? ⟨gb147, 2, none⟩ = some (.int .i16 0) := (blk_cell BK147.out 2).trans rfl; have hfz7_0 := blk_frozen BK147.out 0; have hfz7_1 := blk_frozen BK147.out 1; have hfz7_2 := blk_frozen BK147.out 2) | ((with_reducible refine gate_builtin (b := .append) (xs := #[.tmp 12, .tmp 16]) rfl ?_); at_builtin; refine Kd.R_append (Kd.int .i64) (w0 := w) w.heap.size rfl (.tmp 12) (.tmp 16) 25 2 (.int .i64 0) 8 rfl Try.underlying25 info2 rfl (by decide) (by omega) u3 x3_1 (wrap64 ((rd_T88 l0 x8_1).f0)) [.int .i64 (wrap64 ((rd_T88 l0 x8_1).f0))] (fun _ => True) (fun _ => False) rfl (by first | (go_simp; done) | (go_simp; rfl)) ?aP (fun _ hk => hk.elim) ?aF ?aO ?aB ?aS ?aL ?_; (case aP => exact rfl); (case aB => exact (by repeat (first | (with_reducible first | exact HB.out | apply below_alloc | apply pw_below_drewN | apply below_drew1 | refine below_set ?_ GE147.out) | exact HB.out))); (case aF => exact (fun _ _ => trivial)); (case aO => exact (by (with_reducible repeat (first | apply Kd.R_alloc | apply Kd.R_drewN | apply Kd.R_drew)); exact Kd.R_mono (Kd.R_far (p := ⟨gb147, 2, none⟩) (Kd.R_far (p := ⟨gb147, 1, none⟩) (Kd.R_far (p := ⟨gb147, 0, none⟩) (Kd.R_types HO_3.out BK147.out (by decide)) (fun _ hk => hk.2) (.int .i16 ((rd_T88 l0 x8_1).f0))) (fun _ hk => hk.2) (.int .i16 ((rd_T88 l0 x8_1).f1))) (fun _ hk => hk.2) (.int .i16 ((rd_T88 l0 x8_1).f2))) (fun _ hk => trivial))); (case aS => exact (below_size (by repeat (first | (with_reducible first | exact HB.out | apply below_alloc | apply pw_below_drewN | apply below_drew1 | refine below_set ?_ GE147.out) | exact HB.out)))); (case aL => have := LMc5.out; omega); intro v149 w8 ho hb hg hat; rw [← Ny148.out] at ho; have n0_ := Aside0.mk (blk_grown (g := gb147) (o := .cells #[.int .i16 ((rd_T88 l0 x8_1).f0), .int .i16 ((rd_T88 l0 x8_1).f1), .int .i16 ((rd_T88 l0 x8_1).f2)] 88 (0, 0)) (by (with_reducible repeat (first | refine blk_drewN ?_ _ | refine blk_drew ?_ | refine blk_alloc ?_ _)); refine blk_put (cs := #[.int .i16 ((rd_T88 l0 x8_1).f0), .int .i16 ((rd_T88 l0 x8_1).f1), .int .i16 0]) ?_ 2 _ rfl; (with_reducible repeat (first | refine blk_drewN ?_ _ | refine blk_drew ?_ | refine blk_alloc ?_ _)); refine blk_put (cs := #[.int .i16 ((rd_T88 l0 x8_1).f0), .int .i16 0, .int .i16 0]) ?_ 1 _ rfl; (with_reducible repeat (first | refine blk_drewN ?_ _ | refine blk_drew ?_ | refine blk_alloc ?_ _)); refine blk_put (cs := #[.int .i16 0, .int .i16 0, .int .i16 0]) ?_ 0 _ rfl; (with_reducible repeat (first | refine blk_drewN ?_ _ | refine blk_drew ?_ | refine blk_alloc ?_ _)); exact BK147.out) hg (Kd.R_ne HO_3.out BK147.out (by decide))); have n1_ := Aside0.mk (hb); have n2_ := Aside0.mk (ho); clear BK147; clear HB; (try clear HO_3); have BK147 := n0_; have HB := n1_; have HO150 := n2_; clear n0_ n1_ n2_; clear ho hb hg hat))
              go_roundg k1
              case measure => have := HK1.out; omega
              case rel => exact ⟨(y148), (wrap64 (x8_1 + 1)), (by first | rfl | (simp; done) | (simp [*]; done)), H', ⟨by have := HK1.out; omega⟩, ⟨by (with_reducible repeat (first | apply Kd.R_alloc | apply Kd.R_drewN | apply Kd.R_drew)); exact HO150.out⟩, ⟨by repeat (first | (with_reducible first | exact HB.out | apply below_alloc | apply pw_below_drewN | apply below_drew1 | refine below_set ?_ GE147.out) | exact HB.out)⟩⟩
            · rw [if_neg c5] at H
              exact absurd H (by simp)
          · rw [if_neg c4] at H
            exact absurd H (by simp)
        · rw [if_neg c3] at H
          exact absurd H (by simp)
      · rw [if_neg c2] at H
        have c2b0 : decide (x8_1 < (l0.length : Int)) = false := decide_eq_false c2
        clear c2
        obtain rfl := Option.some.inj H
        go_wp2
        go_ret
        exact ⟨_, by first | rfl | (simp [errW_none, errW_some] <;> rfl) | (simp [*, errW_none, errW_some] <;> rfl), by (with_reducible repeat (first | apply Kd.R_alloc | apply Kd.R_drewN | apply Kd.R_drew)); exact HO_3.out, by repeat (first | (with_reducible first | exact HB.out | apply below_alloc | apply pw_below_drewN | apply below_drew1) | exact HB.out)⟩


/-! ### slices_Clone_int64_int64: function 93 -/
@[reducible] def slices_Clone_int64_int64.f (l0 : List Int) : Option (List Int) := if l0.length * 8 ≤ 140737488355328 then some l0 else none
set_option maxHeartbeats 2000000 in
set_option maxRecDepth 100000 in
theorem slices_Clone_int64_int64.calls (A0 : Option Addr) (c0 : Nat) (l0 : List Int) (r : List Int) (w : World) (hr0 : Kd.C (Kd.int .i64) w A0 l0.length l0) (hc0 : l0.length ≤ c0) (h : slices_Clone_int64_int64.f l0 = some r) :
    Calls Try.prog 93 #[.slice A0 l0.length c0] w fun e w' => ∃ v0_ : Value, e = .returned (v0_) ∧ Kd.R (Kd.int .i64) 2 w' w.heap.size (fun _ => True) v0_ r ∧ Below w.heap.size w w' := by
  have h : (if l0.length * 8 ≤ 140737488355328 then some l0 else none) = some r := h
  by_cases hlen : l0.length * 8 ≤ 140737488355328
  · rw [if_pos hlen] at h
    obtain rfl := Option.some.inj h
    have HR := Aside0.mk hr0
    have HC := Aside0.mk hc0
    have HL := Aside0.mk hlen
    clear h hr0 hc0 hlen
    have qn : ∀ (w : World) (a : Option Addr) (n c n' c' : Nat), (binOp .eql 25 (.slice a n c) (.slice none n' c')).run Try.prog w = .ok (.bool a.isNone) w := fun w a n c n' c' => Lib.run_eql_slice_nil w _ _ a n c n' c' Try.underlying25
    rcases A0 with _ | ad
    · have hn : l0 = [] := by
        have h1 := HR.out
        rcases l0 with _ | ⟨x, l⟩
        · rfl
        · obtain ⟨ad, h, _⟩ := h1.2.2 (by simp)
          cases h
      subst hn
      go_enter Try.func93, Try.ntmps93
      go_wp2
      go_ret
      exact ⟨_, rfl, Kd.R_nil _ _ _ _ _, Below.refl _ w⟩
    · go_enter Try.func93, Try.ntmps93
      go_wp2_with (at_builtin; refine Kd.R_append_rows (Kd.int .i64) (w0 := w) w.heap.size rfl _ _ 25 2 (.int .i64 0) 8 rfl Try.underlying25 (by kernel_rfl) rfl (by decide) (by omega) _ [] l0 _ _ _ (fun _ => True) (fun _ => False) rfl rfl ?aO ?aR (fun _ _ h => h) (fun _ h => h.elim) ?aF ?aB ?aS ?aL ?_)
      case aO => exact ⟨fun _ _ => trivial, [], World.ownsRow_made w #[] 0 (Nat.le_refl _) (Nat.zero_le _) rfl, Reps.none _ _⟩
      case aR => exact Kd.C_alloc HR.out _
      case aF => exact fun _ _ => trivial
      case aB => exact (Below.refl _ w).alloc (Nat.le_refl _) _
      case aS => simp
      case aL => have := HL.out; simpa using this
      intro v1 w1 ho hb hg hat
      have HO := Aside0.mk ho
      have HB := Aside0.mk hb
      clear ho hb hg hat
      go_wp2
      go_ret
      exact ⟨v1, rfl, by simpa using HO.out, HB.out⟩
  · rw [if_neg hlen] at h; cases h

end Go.Proofs.Ytjhjabibkkhmjaa.XFnExactFewestOpened
