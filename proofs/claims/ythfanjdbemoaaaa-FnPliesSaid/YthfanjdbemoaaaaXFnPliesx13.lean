/- The functions that the law FnPlies reaches: each as a Lean function, and that its call does what that function says; no conditions. -/
import Derived.Test.YthfanjdbemoaaaaXFnPliesx0
import Derived.Test.YthfanjdbemoaaaaXFnPliesx4
namespace Go.Proofs.Ythfanjdbemoaaaa.XFnPlies
open Go.RowKit Go.Proofs.YthfanjdbemoaaaaW.PrintWords Go.Proofs.YthfanjdbemoaaaaW.PrintLast Go.Proofs.YthfanjdbemoaaaaW.PrintMore
attribute [local go_sem] max2_int min2_int max_two min_two max_three min_three max_four min_four   -- for this text's walks alone
set_option linter.unusedVariables false
set_option linter.unusedSimpArgs false

/-! ### slices_Max_int64_int64: function 48 -/
def slices_Max_int64_int64.go : Int → List Int → Int
  | m, [] => m
  | m, x :: t => slices_Max_int64_int64.go (mx m x) t
def slices_Max_int64_int64.f : List Int → Option Int
  | [] => none
  | x :: t => some (slices_Max_int64_int64.go x t)
set_option maxHeartbeats 4000000 in
theorem slices_Max_int64_int64.calls (A0 : Option Addr) (c0 : Nat) (l0 : List Int) (r : Int) (w : World) (hr0 : Kd.C (Kd.int .i64) w A0 l0.length l0) (hc0 : l0.length ≤ c0) (h : slices_Max_int64_int64.f l0 = some r) :
    Calls Try.prog 48 #[.slice A0 l0.length c0] w fun e w' => e = .returned (.int .i64 r) ∧ w = w' := by
  cases hl : l0 with
  | nil => rw [hl] at h; cases h
  | cons x t =>
    have hpos : 0 < l0.length := by rw [hl]; simp
    have hH : slices_Max_int64_int64.go x (l0.drop 1) = r := by rw [hl] at h ⊢; exact Option.some.inj h
    have hx0 : rd l0 0 = x := by rw [hl]; rfl
    rw [← hl]
    clear hl h
    obtain ⟨ad, e, hc⟩ := Kd.at_int hr0 0 (by omega) (by omega)
    rw [hx0] at hc
    cases e
    have hc2 : w.cell? ad = some (.int .i64 x) := by simpa [Addr.add] using hc
    have HR := Aside0.mk hr0
    have HH := Aside0.mk hH
    have hn1 : ¬ (l0.length : Int) < 1 := by omega
    have h0l : (0 : Int) < (l0.length : Int) := by omega
    clear hH hx0 hr0
    go_enter Try.func48, Try.ntmps48
    go_wp2
    go_loopg [3, 4] l0.length (fun gq v3 v4 w' => ∃ (t : Nat) (m : Int), t + gq = l0.length + 1 ∧ 1 ≤ t ∧ t ≤ l0.length ∧ v3 = .int .i64 m ∧ v4 = .int .i64 (t : Int) ∧ w = w' ∧ Aside0 (slices_Max_int64_int64.go m (l0.drop t) = r))
    case atStart => exact ⟨1, x, by omega, by omega, by omega, rfl, rfl, rfl, HH⟩
    case round =>
      clear HH hc hc2
      obtain ⟨t, m, htg, h1t, htl, rfl, rfl, rfl, HH⟩ := hrel
      by_cases hlt : t < l0.length
      · cases gk with
        | zero => omega
        | succ g =>
          have hltz : (t : Int) < (l0.length : Int) := by omega
          obtain ⟨ad2, e, hc⟩ := Kd.at_int HR.out (t : Int) (by omega) hltz
          cases e
          have hrd : rd l0 (t : Int) = l0[t] := by unfold rd; simp [List.getD, hlt]
          rw [hrd, Int.toNat_natCast] at hc
          have hT := HH.out
          rw [List.drop_eq_getElem_cons hlt] at hT
          simp only [slices_Max_int64_int64.go] at hT
          have HT := Aside0.mk hT
          clear hT hrd HH
          generalize l0[t] = y at *
          go_wp2
          all_goals
            go_roundg g
            case measure => omega
            case rel =>
              have hmx := Kd.C_max HR.out
              exact ⟨t + 1, mx m y, by omega, by omega, by omega, by first | rfl | (unfold mx; split <;> first | rfl | (exfalso; omega) | simp_all), by rw [show wrap64 ((t : Int) + 1) = ((t + 1 : Nat) : Int) from by unfold wrap64; omega], rfl, HT⟩
      · have ht : t = l0.length := by omega
        subst ht
        have hnlt : ¬ (l0.length : Int) < (l0.length : Int) := by omega
        have hT := HH.out
        rw [List.drop_eq_nil_of_le (Nat.le_refl _)] at hT
        simp only [slices_Max_int64_int64.go] at hT
        subst hT
        go_wp2
        go_ret
        exact ⟨rfl, rfl⟩


/-! ### slices_Clone_int64_int64: function 49 -/
@[reducible] def slices_Clone_int64_int64.f (l0 : List Int) : Option (List Int) := if l0.length * 8 ≤ 140737488355328 then some l0 else none
set_option maxHeartbeats 2000000 in
set_option maxRecDepth 100000 in
theorem slices_Clone_int64_int64.calls (A0 : Option Addr) (c0 : Nat) (l0 : List Int) (r : List Int) (w : World) (hr0 : Kd.C (Kd.int .i64) w A0 l0.length l0) (hc0 : l0.length ≤ c0) (h : slices_Clone_int64_int64.f l0 = some r) :
    Calls Try.prog 49 #[.slice A0 l0.length c0] w fun e w' => ∃ v0_ : Value, e = .returned (v0_) ∧ Kd.R (Kd.int .i64) 2 w' w.heap.size (fun _ => True) v0_ r ∧ Below w.heap.size w w' := by
  have h : (if l0.length * 8 ≤ 140737488355328 then some l0 else none) = some r := h
  by_cases hlen : l0.length * 8 ≤ 140737488355328
  · rw [if_pos hlen] at h
    obtain rfl := Option.some.inj h
    have HR := Aside0.mk hr0
    have HC := Aside0.mk hc0
    have HL := Aside0.mk hlen
    clear h hr0 hc0 hlen
    have qn : ∀ (w : World) (a : Option Addr) (n c n' c' : Nat), (binOp .eql 46 (.slice a n c) (.slice none n' c')).run Try.prog w = .ok (.bool a.isNone) w := fun w a n c n' c' => Lib.run_eql_slice_nil w _ _ a n c n' c' Try.underlying46
    rcases A0 with _ | ad
    · have hn : l0 = [] := by
        have h1 := HR.out
        rcases l0 with _ | ⟨x, l⟩
        · rfl
        · obtain ⟨ad, h, _⟩ := h1.2.2 (by simp)
          cases h
      subst hn
      go_enter Try.func49, Try.ntmps49
      go_wp2
      go_ret
      exact ⟨_, rfl, Kd.R_nil _ _ _ _ _, Below.refl _ w⟩
    · go_enter Try.func49, Try.ntmps49
      go_wp2_with (at_builtin; refine Kd.R_append_rows (Kd.int .i64) (w0 := w) w.heap.size rfl _ _ 46 2 (.int .i64 0) 8 rfl Try.underlying46 (by kernel_rfl) rfl (by decide) (by omega) _ [] l0 _ _ _ (fun _ => True) (fun _ => False) rfl rfl ?aO ?aR (fun _ _ h => h) (fun _ h => h.elim) ?aF ?aB ?aS ?aL ?_)
      case aO => exact ⟨fun _ _ => trivial, [], World.ownsRow_made w #[] 0 (Nat.le_refl _) (Nat.zero_le _) rfl, Reps.none _ _⟩
      case aR => exact Kd.C_alloc HR.out _
      case aF => exact fun _ _ => trivial
      case aB => exact (Below.refl _ w).alloc (Nat.le_refl _) _
      case aS => simp
      case aL => have := HL.out; simpa using this
      intro v1 w1 ho hb hg hat
      have HO := Aside0.mk ho
      have HB := Aside0.mk hb
      clear ho hb hg hat
      go_wp2
      go_ret
      exact ⟨v1, rfl, by simpa using HO.out, HB.out⟩
  · rw [if_neg hlen] at h; cases h

/-! ### impl_EvenPlies_1: function 47 -/
mutual
/-- Puts the yarns from i on: own, long, best, least behind it. -/
def impl_EvenPlies_1.f (l : List S33) (plies : Int) : Nat → Int → Int → List Int → List Int → List Int → Int → Option (List Int × List Int × List Int × Int)
  | 0, _, _, _, _, _, _ => none
  | k + 1, i, used, O, L, B, m => (slices_Max_int64_int64.f L).bind fun most =>
    if m ≥ 0 ∧ most ≥ m then some (O, L, B, m)
    else if i = (l.length : Int) then (slices_Clone_int64_int64.f O).bind fun B2 => some (O, L, B2, most)
    else impl_EvenPlies_1.l0 l plies k i used (mn (wrap64 (used + 1)) plies) 0 O L B m
def impl_EvenPlies_1.l0 (l : List S33) (plies : Int) : Nat → Int → Int → Int → Int → List Int → List Int → List Int → Int → Option (List Int × List Int × List Int × Int)
  | 0, _, _, _, _, _, _, _, _ => none
  | k + 1, i, used, bd, x, O, L, B, m =>
    if x < bd then
      (if 0 ≤ i ∧ i < (l.length : Int) ∧ i < (O.length : Int) ∧ 0 ≤ x ∧ x < (L.length : Int) then
        (impl_EvenPlies_1.f l plies k (wrap64 (i + 1)) (mx used (wrap64 (x + 1))) (O.set i.toNat x) (L.set x.toNat (wrap64 (rd L x + wrap64 (rd_T33 l i).f0))) B m).bind fun r =>
          if x < (r.2.1.length : Int) then impl_EvenPlies_1.l0 l plies k i used bd (wrap64 (x + 1)) r.1 (r.2.1.set x.toNat (wrap64 (rd r.2.1 x - wrap64 (rd_T33 l i).f0))) r.2.2.1 r.2.2.2 else none
      else none)
    else some (O, L, B, m)
end
theorem impl_EvenPlies_1.mono_l (l : List S33) (plies : Int) : ∀ k, (∀ i used O L B m, LeO (impl_EvenPlies_1.f l plies k i used O L B m) (impl_EvenPlies_1.f l plies (k + 1) i used O L B m)) ∧ (∀ i used bd x O L B m, LeO (impl_EvenPlies_1.l0 l plies k i used bd x O L B m) (impl_EvenPlies_1.l0 l plies (k + 1) i used bd x O L B m))
  | 0 => ⟨fun _ _ _ _ _ _ r h => by simp [impl_EvenPlies_1.f] at h, fun _ _ _ _ _ _ _ _ r h => by simp [impl_EvenPlies_1.l0] at h⟩
  | k + 1 => by
    obtain ⟨ih1, ih2⟩ := impl_EvenPlies_1.mono_l l plies k
    constructor
    · intro i used O L B m
      rw [impl_EvenPlies_1.f, impl_EvenPlies_1.f]
      repeat' first
        | exact ih2 _ _ _ _ _ _ _ _
        | (with_reducible exact LeO.refl _)
        | (with_reducible refine LeO.ite ?_ ?_)
        | (with_reducible refine LeO.bind ?_ (fun _ => ?_))
    · intro i used bd x O L B m
      rw [impl_EvenPlies_1.l0, impl_EvenPlies_1.l0]
      repeat' first
        | exact ih1 _ _ _ _ _ _
        | exact ih2 _ _ _ _ _ _ _ _
        | (with_reducible exact LeO.refl _)
        | (with_reducible refine LeO.ite ?_ ?_)
        | (with_reducible refine LeO.bind ?_ (fun _ => ?_))
theorem impl_EvenPlies_1.far {W : World} {base : Nat} {v : Value} {xs : List Int} (h : Kd.R (Kd.int .i64) 2 W base (fun _ => True) v xs) {q : Nat} (hne : some q ≠ v.ownBlock) (j : Nat) (u : Value) : Kd.R (Kd.int .i64) 2 (W.setCell ⟨q, j, none⟩ u) base (fun _ => True) v xs :=
  Kd.R_mono (Kd.R_far (p := ⟨q, j, none⟩) (Kd.R_far1 h rfl hne) (fun _ hk => hk.2) u) (fun _ _ => trivial)
/-- The closure's variables: the boxes gl (long), gm (least), gL (list), go (own), gb (best), gp (plies), gf (put), the rows bo and bl. -/
structure impl_EvenPlies_1.Inv (w W : World) (A0 : Option Addr) (c0 : Nat) (l : List S33) (plies : Int) (gl gm gL go gb gp gf bo bl co cl : Nat) (O L B : List Int) (m : Int) (vB : Value) : Prop where
  b : Below w.heap.size w W
  lo : ∀ g ∈ [gl, gm, gL, go, gb, gp, gf, bo, bl], w.heap.size ≤ g
  nd : [gl, gm, gL, go, gb, gp, gf, bo, bl].Nodup
  hL : W.heap[gL]? = some (.cells #[.slice A0 l.length c0] 24 (0, 0))
  hp : W.heap[gp]? = some (.cells #[.int .i64 plies] 2 (0, 0))
  ho : W.heap[go]? = some (.cells #[.slice (some ⟨bo, 0, none⟩) O.length co] 46 (0, 0))
  hl : W.heap[gl]? = some (.cells #[.slice (some ⟨bl, 0, none⟩) L.length cl] 46 (0, 0))
  hb : W.heap[gb]? = some (.cells #[vB] 46 (0, 0))
  hm : W.heap[gm]? = some (.cells #[.int .i64 m] 2 (0, 0))
  hf : W.heap[gf]? = some (.cells #[.func (.func 47) #[] #[.pointer (some ⟨gl, 0, none⟩), .pointer (some ⟨gm, 0, none⟩), .pointer (some ⟨gL, 0, none⟩), .pointer (some ⟨go, 0, none⟩), .pointer (some ⟨gb, 0, none⟩), .pointer (some ⟨gp, 0, none⟩), .pointer (some ⟨gf, 0, none⟩)]] 73 (0, 0))
  ro : Kd.R (Kd.int .i64) 2 W w.heap.size (fun _ => True) (.slice (some ⟨bo, 0, none⟩) O.length co) O
  rl : Kd.R (Kd.int .i64) 2 W w.heap.size (fun _ => True) (.slice (some ⟨bl, 0, none⟩) L.length cl) L
  rb : Kd.R (Kd.int .i64) 2 W w.heap.size (fun _ => True) vB B
  n1 : some bo ≠ vB.ownBlock
  n2 : some bl ≠ vB.ownBlock
  n3 : some gm ≠ vB.ownBlock
section
variable {w W : World} {A0 : Option Addr} {c0 : Nat} {l : List S33} {plies : Int} {gl gm gL go gb gp gf bo bl co cl : Nat} {O L B : List Int} {m : Int} {vB : Value}
theorem impl_EvenPlies_1.Inv.next (h : impl_EvenPlies_1.Inv w W A0 c0 l plies gl gm gL go gb gp gf bo bl co cl O L B m vB) {W' : World} (hb : Below W.heap.size W W') : impl_EvenPlies_1.Inv w W' A0 c0 l plies gl gm gL go gb gp gf bo bl co cl O L B m vB :=
  ⟨below_then h.b h.b.size hb, h.lo, h.nd, blk_below h.hL hb, blk_below h.hp hb, blk_below h.ho hb, blk_below h.hl hb, blk_below h.hb hb, blk_below h.hm hb, blk_below h.hf hb, Kd.R_below h.ro hb, Kd.R_below h.rl hb, Kd.R_below h.rb hb, h.n1, h.n2, h.n3⟩
theorem impl_EvenPlies_1.Inv.drew (h : impl_EvenPlies_1.Inv w W A0 c0 l plies gl gm gL go gb gp gf bo bl co cl O L B m vB) (n : Nat) : impl_EvenPlies_1.Inv w (W.drewN n) A0 c0 l plies gl gm gL go gb gp gf bo bl co cl O L B m vB :=
  h.next (pw_below_drewN (Below.refl _ _) n)
theorem impl_EvenPlies_1.Inv.ne (h : impl_EvenPlies_1.Inv w W A0 c0 l plies gl gm gL go gb gp gf bo bl co cl O L B m vB) : (gl ≠ bo ∧ gm ≠ bo ∧ gL ≠ bo ∧ go ≠ bo ∧ gb ≠ bo ∧ gp ≠ bo ∧ gf ≠ bo ∧ bl ≠ bo) ∧ (gl ≠ bl ∧ gm ≠ bl ∧ gL ≠ bl ∧ go ≠ bl ∧ gb ≠ bl ∧ gp ≠ bl ∧ gf ≠ bl ∧ bo ≠ bl) ∧ (gl ≠ gb ∧ gm ≠ gb ∧ gL ≠ gb ∧ go ≠ gb ∧ gp ≠ gb ∧ gf ≠ gb ∧ bo ≠ gb ∧ bl ≠ gb) ∧ (gl ≠ gm ∧ gb ≠ gm ∧ gL ≠ gm ∧ go ≠ gm ∧ gp ≠ gm ∧ gf ≠ gm ∧ bo ≠ gm ∧ bl ≠ gm) := by
  have p := fun (i j : Nat) (hi : i < 9) (hj : j < 9) (hij : i < j) => List.pairwise_iff_getElem.1 h.nd i j hi hj hij
  exact ⟨⟨p 0 7 (by decide) (by decide) (by decide), p 1 7 (by decide) (by decide) (by decide), p 2 7 (by decide) (by decide) (by decide), p 3 7 (by decide) (by decide) (by decide), p 4 7 (by decide) (by decide) (by decide), p 5 7 (by decide) (by decide) (by decide), p 6 7 (by decide) (by decide) (by decide), (p 7 8 (by decide) (by decide) (by decide)).symm⟩,
    ⟨p 0 8 (by decide) (by decide) (by decide), p 1 8 (by decide) (by decide) (by decide), p 2 8 (by decide) (by decide) (by decide), p 3 8 (by decide) (by decide) (by decide), p 4 8 (by decide) (by decide) (by decide), p 5 8 (by decide) (by decide) (by decide), p 6 8 (by decide) (by decide) (by decide), p 7 8 (by decide) (by decide) (by decide)⟩,
    ⟨p 0 4 (by decide) (by decide) (by decide), p 1 4 (by decide) (by decide) (by decide), p 2 4 (by decide) (by decide) (by decide), p 3 4 (by decide) (by decide) (by decide), (p 4 5 (by decide) (by decide) (by decide)).symm, (p 4 6 (by decide) (by decide) (by decide)).symm, (p 4 7 (by decide) (by decide) (by decide)).symm, (p 4 8 (by decide) (by decide) (by decide)).symm⟩,
    ⟨p 0 1 (by decide) (by decide) (by decide), (p 1 4 (by decide) (by decide) (by decide)).symm, (p 1 2 (by decide) (by decide) (by decide)).symm, (p 1 3 (by decide) (by decide) (by decide)).symm, (p 1 5 (by decide) (by decide) (by decide)).symm, (p 1 6 (by decide) (by decide) (by decide)).symm, (p 1 7 (by decide) (by decide) (by decide)).symm, (p 1 8 (by decide) (by decide) (by decide)).symm⟩⟩
theorem impl_EvenPlies_1.Inv.setO (h : impl_EvenPlies_1.Inv w W A0 c0 l plies gl gm gL go gb gp gf bo bl co cl O L B m vB) (i : Int) (x : Int) : impl_EvenPlies_1.Inv w (W.setCell ⟨bo, i.toNat, none⟩ (.int .i64 x)) A0 c0 l plies gl gm gL go gb gp gf bo bl co cl (O.set i.toNat x) L B m vB := by
  obtain ⟨⟨a1, a2, a3, a4, a5, a6, a7, a8⟩, _⟩ := h.ne
  have e : (O.set i.toNat x).length = O.length := List.length_set
  refine ⟨below_set h.b (h.lo bo (by simp)), h.lo, h.nd, blk_far h.hL a3 _, blk_far h.hp a6 _, by rw [e]; exact blk_far h.ho a4 _, blk_far h.hl a1 _, blk_far h.hb a5 _, blk_far h.hm a2 _, blk_far h.hf a7 _, by rw [e]; exact Kd.R_putn h.ro i x, impl_EvenPlies_1.far h.rl (by simp [Value.ownBlock]; exact fun e => a8 e.symm) _ _, impl_EvenPlies_1.far h.rb h.n1 _ _, h.n1, h.n2, h.n3⟩
theorem impl_EvenPlies_1.Inv.setL (h : impl_EvenPlies_1.Inv w W A0 c0 l plies gl gm gL go gb gp gf bo bl co cl O L B m vB) (i : Int) (x : Int) : impl_EvenPlies_1.Inv w (W.setCell ⟨bl, i.toNat, none⟩ (.int .i64 x)) A0 c0 l plies gl gm gL go gb gp gf bo bl co cl O (L.set i.toNat x) B m vB := by
  obtain ⟨_, ⟨a1, a2, a3, a4, a5, a6, a7, a8⟩, _⟩ := h.ne
  have e : (L.set i.toNat x).length = L.length := List.length_set
  refine ⟨below_set h.b (h.lo bl (by simp)), h.lo, h.nd, blk_far h.hL a3 _, blk_far h.hp a6 _, blk_far h.ho a4 _, by rw [e]; exact blk_far h.hl a1 _, blk_far h.hb a5 _, blk_far h.hm a2 _, blk_far h.hf a7 _, impl_EvenPlies_1.far h.ro (by simp [Value.ownBlock]; exact fun e => a8 e.symm) _ _, by rw [e]; exact Kd.R_putn h.rl i x, impl_EvenPlies_1.far h.rb h.n2 _ _, h.n1, h.n2, h.n3⟩
/-- A new best list, and how even it is. -/
theorem impl_EvenPlies_1.Inv.best (h : impl_EvenPlies_1.Inv w W A0 c0 l plies gl gm gL go gb gp gf bo bl co cl O L B m vB) {v2 : Value} {B2 : List Int} (hr : Kd.R (Kd.int .i64) 2 W w.heap.size (fun _ => True) v2 B2) (k1 : some bo ≠ v2.ownBlock) (k2 : some bl ≠ v2.ownBlock) (k3 : some gm ≠ v2.ownBlock) (x : Int) : impl_EvenPlies_1.Inv w ((W.setCell ⟨gb, 0, none⟩ v2).setCell ⟨gm, 0, none⟩ (.int .i64 x)) A0 c0 l plies gl gm gL go gb gp gf bo bl co cl O L B2 x v2 := by
  obtain ⟨_, _, ⟨a1, a2, a3, a4, a5, a6, a7, a8⟩, ⟨b1, b2, b3, b4, b5, b6, b7, b8⟩⟩ := h.ne
  have far2 : ∀ {v : Value} {xs : List Int}, Kd.R (Kd.int .i64) 2 W w.heap.size (fun _ => True) v xs → Kd.R (Kd.int .i64) 2 (W.setCell ⟨gb, 0, none⟩ v2) w.heap.size (fun _ => True) v xs := fun hx => Kd.R_mono (Kd.R_far (p := ⟨gb, 0, none⟩) (Kd.R_types hx h.hb (by decide)) (fun _ hk => hk.2) _) (fun _ _ => trivial)
  refine ⟨below_set (below_set h.b (h.lo gb (by simp))) (h.lo gm (by simp)), h.lo, h.nd, blk_far (blk_far h.hL a3 _) b3 _, blk_far (blk_far h.hp a5 _) b5 _, blk_far (blk_far h.ho a4 _) b4 _, blk_far (blk_far h.hl a1 _) b1 _, blk_far (blk_put (cs := #[vB]) h.hb 0 v2 rfl) b2 _, blk_put (cs := #[.int .i64 m]) (blk_far h.hm a2 _) 0 _ rfl, blk_far (blk_far h.hf a6 _) b6 _, impl_EvenPlies_1.far (far2 h.ro) (by simp [Value.ownBlock]; exact fun e => b7 e.symm) _ _, impl_EvenPlies_1.far (far2 h.rl) (by simp [Value.ownBlock]; exact fun e => b8 e.symm) _ _, impl_EvenPlies_1.far (far2 hr) k3 _ _, k1, k2, k3⟩
end
/-- A row that is new lies apart. -/
theorem impl_EvenPlies_1.apart {W W' : World} {v : Value} {xs : List Int} (h : Kd.R (Kd.int .i64) 2 W' W.heap.size (fun _ => True) v xs) {q : Nat} (hq : q < W.heap.size) : some q ≠ v.ownBlock := fun e => by
  have := Kd.R_base h q e.symm
  omega
theorem impl_EvenPlies_1.eg : ∀ args w, (callFunc 47 args).run Try.prog w = .ok (.enter 47 args) w := enters_of Try.func47 (by kernel_rfl) rfl
set_option maxHeartbeats 8000000 in
set_option maxRecDepth 100000 in
theorem impl_EvenPlies_1.calls (w : World) (A0 : Option Addr) (c0 : Nat) (l : List S33) (plies : Int) (gl gm gL go gb gp gf bo bl co cl : Nat) (hC : Kd.C k33 w A0 l.length l) : ∀ (k : Nat) (i used : Int) (O L B : List Int) (m : Int) (vB : Value) (W : World) (r1 r2 r3 : List Int) (r4 : Int), impl_EvenPlies_1.Inv w W A0 c0 l plies gl gm gL go gb gp gf bo bl co cl O L B m vB → impl_EvenPlies_1.f l plies k i used O L B m = some (r1, r2, r3, r4) →
    Calls Try.prog 47 #[.int .i64 i, .int .i64 used, .pointer (some ⟨gl, 0, none⟩), .pointer (some ⟨gm, 0, none⟩), .pointer (some ⟨gL, 0, none⟩), .pointer (some ⟨go, 0, none⟩), .pointer (some ⟨gb, 0, none⟩), .pointer (some ⟨gp, 0, none⟩), .pointer (some ⟨gf, 0, none⟩)] W fun e w' => e = .returned (.tuple #[]) ∧ ∃ vB2, impl_EvenPlies_1.Inv w w' A0 c0 l plies gl gm gL go gb gp gf bo bl co cl r1 r2 r3 r4 vB2 := by
  intro k
  have HCC := Aside0.mk hC
  clear hC
  induction k using Nat.strongRecOn with
  | _ k IH =>
  intro i used O L B m vB W r1 r2 r3 r4 hI h
  cases k with
  | zero => simp [impl_EvenPlies_1.f] at h
  | succ k =>
    have IHa := Aside0.mk IH
    clear IH
    rw [impl_EvenPlies_1.f] at h
    obtain ⟨most, hmost, h⟩ := Option.bind_eq_some_iff.mp h
    have HM := Aside0.mk hmost
    have hcl : W.cell? ⟨gl, 0, none⟩ = some (.slice (some ⟨bl, 0, none⟩) L.length cl) := (blk_cell hI.hl 0).trans rfl
    have hcm : W.cell? ⟨gm, 0, none⟩ = some (.int .i64 m) := (blk_cell hI.hm 0).trans rfl
    have hcL : W.cell? ⟨gL, 0, none⟩ = some (.slice A0 l.length c0) := (blk_cell hI.hL 0).trans rfl
    have hco : W.cell? ⟨go, 0, none⟩ = some (.slice (some ⟨bo, 0, none⟩) O.length co) := (blk_cell hI.ho 0).trans rfl
    have hcp : W.cell? ⟨gp, 0, none⟩ = some (.int .i64 plies) := (blk_cell hI.hp 0).trans rfl
    have HI := Aside0.mk hI
    clear hI hmost
    by_cases h1 : m ≥ 0 ∧ most ≥ m
    · rw [if_pos h1] at h
      have e := Option.some.inj h
      simp only [Prod.mk.injEq] at e
      obtain ⟨rfl, rfl, rfl, rfl⟩ := e
      obtain ⟨h1a, h1b⟩ := h1
      have d1 : decide (m ≥ 0) = true := decide_eq_true h1a
      have d2 : decide (0 ≤ m) = true := decide_eq_true h1a
      have d3 : decide (m ≤ most) = true := decide_eq_true h1b
      clear h
      go_enter Try.func47, Try.ntmps47
      go_wp2_with (go_at_call 48; refine (slices_Max_int64_int64.calls _ cl L most _ (Kd.R_reads' HI.out.rl).2.2 (Kd.R_reads' HI.out.rl).2.1 HM.out).mono ?_; rintro e w2 ⟨rfl, rfl⟩)
      refine bodyPost_ret (results_none rfl _ _ _) rfl ⟨rfl, vB, HI.out⟩
    · rw [if_neg h1] at h
      by_cases hi : i = (l.length : Int)
      · rw [if_pos hi] at h
        obtain ⟨B2, hB2, h⟩ := Option.bind_eq_some_iff.mp h
        have e := Option.some.inj h
        simp only [Prod.mk.injEq] at e
        obtain ⟨rfl, rfl, rfl, rfl⟩ := e
        have HB2 := Aside0.mk hB2
        have hi1 : (i == (l.length : Int)) = true := beq_iff_eq.mpr hi
        clear h hB2
        by_cases hm0 : m ≥ 0
        · have hmm : ¬ m ≤ most := fun z => h1 ⟨hm0, z⟩
          have d0 : decide (m ≥ 0) = true := decide_eq_true hm0
          have d1 : decide (0 ≤ m) = true := decide_eq_true hm0
          have d2 : decide (m ≤ most) = false := decide_eq_false hmm
          clear h1 hmm
          go_enter Try.func47, Try.ntmps47
          go_wp2_with (first | (go_at_call 48; refine (slices_Max_int64_int64.calls _ cl L most _ (Kd.R_reads' HI.out.rl).2.2 (Kd.R_reads' HI.out.rl).2.1 HM.out).mono ?_; rintro e w2 ⟨rfl, rfl⟩) | (go_at_call 49; refine (slices_Clone_int64_int64.calls _ co O B2 _ (Kd.R_reads' HI.out.ro).2.2 (Kd.R_reads' HI.out.ro).2.1 HB2.out).mono ?_; rintro e w3 ⟨v3, rfl, ho3, hb3⟩; have HI3 := Aside0.mk (HI.out.next hb3); have HR3 := Aside0.mk (Kd.R_lower ho3 HI.out.b.size); have K1 := Aside0.mk (impl_EvenPlies_1.apart ho3 (Kd.R_lt HI.out.ro bo (by simp [Value.ownBlock]))); have K2 := Aside0.mk (impl_EvenPlies_1.apart ho3 (Kd.R_lt HI.out.rl bl (by simp [Value.ownBlock]))); have K3 := Aside0.mk (impl_EvenPlies_1.apart ho3 (blk_lt HI.out.hm)); obtain ⟨A3, c3, e3⟩ := Kd.R_slice ho3; subst e3; have hcb3 : w3.cell? ⟨gb, 0, none⟩ = some vB := (blk_cell HI3.out.hb 0).trans rfl; have hfb3 := blk_frozen HI3.out.hb 0; have hcm3 : w3.cell? ⟨gm, 0, none⟩ = some (.int .i64 m) := (blk_cell HI3.out.hm 0).trans rfl; have hfm3 := blk_frozen HI3.out.hm 0; have nbm : ¬ gb = gm := HI3.out.ne.2.2.2.2.1; have nmb : ¬ gm = gb := fun e => nbm e.symm; clear ho3 hb3))
          refine bodyPost_ret (results_none rfl _ _ _) rfl ⟨rfl, _, HI3.out.best HR3.out K1.out K2.out K3.out most⟩
        · have hm1 : ¬ 0 ≤ m := hm0
          have d0 : decide (m ≥ 0) = false := decide_eq_false hm0
          have d1 : decide (0 ≤ m) = false := decide_eq_false hm0
          clear h1
          go_enter Try.func47, Try.ntmps47
          go_wp2_with (first | (go_at_call 48; refine (slices_Max_int64_int64.calls _ cl L most _ (Kd.R_reads' HI.out.rl).2.2 (Kd.R_reads' HI.out.rl).2.1 HM.out).mono ?_; rintro e w2 ⟨rfl, rfl⟩) | (go_at_call 49; refine (slices_Clone_int64_int64.calls _ co O B2 _ (Kd.R_reads' HI.out.ro).2.2 (Kd.R_reads' HI.out.ro).2.1 HB2.out).mono ?_; rintro e w3 ⟨v3, rfl, ho3, hb3⟩; have HI3 := Aside0.mk (HI.out.next hb3); have HR3 := Aside0.mk (Kd.R_lower ho3 HI.out.b.size); have K1 := Aside0.mk (impl_EvenPlies_1.apart ho3 (Kd.R_lt HI.out.ro bo (by simp [Value.ownBlock]))); have K2 := Aside0.mk (impl_EvenPlies_1.apart ho3 (Kd.R_lt HI.out.rl bl (by simp [Value.ownBlock]))); have K3 := Aside0.mk (impl_EvenPlies_1.apart ho3 (blk_lt HI.out.hm)); obtain ⟨A3, c3, e3⟩ := Kd.R_slice ho3; subst e3; have hcb3 : w3.cell? ⟨gb, 0, none⟩ = some vB := (blk_cell HI3.out.hb 0).trans rfl; have hfb3 := blk_frozen HI3.out.hb 0; have hcm3 : w3.cell? ⟨gm, 0, none⟩ = some (.int .i64 m) := (blk_cell HI3.out.hm 0).trans rfl; have hfm3 := blk_frozen HI3.out.hm 0; have nbm : ¬ gb = gm := HI3.out.ne.2.2.2.2.1; have nmb : ¬ gm = gb := fun e => nbm e.symm; clear ho3 hb3))
          refine bodyPost_ret (results_none rfl _ _ _) rfl ⟨rfl, _, HI3.out.best HR3.out K1.out K2.out K3.out most⟩
      · rw [if_neg hi] at h
        have hi1 : (i == (l.length : Int)) = false := beq_eq_false_iff_ne.mpr hi
        obtain ⟨bd, hbd⟩ : ∃ b, mn (wrap64 (used + 1)) plies = b := ⟨_, rfl⟩
        rw [hbd] at h
        have hbd2 : (if plies < wrap64 (used + 1) then plies else wrap64 (used + 1)) = bd := hbd
        have HL := Aside0.mk h
        clear h hbd
        by_cases hm0 : m ≥ 0
        · have hmm : ¬ m ≤ most := fun z => h1 ⟨hm0, z⟩
          have d0 : decide (m ≥ 0) = true := decide_eq_true hm0
          have d1 : decide (0 ≤ m) = true := decide_eq_true hm0
          have d2 : decide (m ≤ most) = false := decide_eq_false hmm
          clear h1 hmm
          go_enter Try.func47, Try.ntmps47
          go_wp2_with (first | (go_at_call 48; refine (slices_Max_int64_int64.calls _ cl L most _ (Kd.R_reads' HI.out.rl).2.2 (Kd.R_reads' HI.out.rl).2.1 HM.out).mono ?_; rintro e w2 ⟨rfl, rfl⟩))
          clear hcl hcm hcL hco hcp
          go_loopg [33] k (fun gq v33 W2 => ∃ (x : Int) (O1 L1 B1 : List Int) (m1 : Int) (vB1 : Value), v33 = .int .i64 x ∧ Aside0 (impl_EvenPlies_1.l0 l plies gq i used bd x O1 L1 B1 m1 = some (r1, r2, r3, r4)) ∧ Aside0 (gq ≤ k) ∧ Aside0 (impl_EvenPlies_1.Inv w W2 A0 c0 l plies gl gm gL go gb gp gf bo bl co cl O1 L1 B1 m1 vB1))
          case atStart => exact ⟨0, O, L, B, m, vB, rfl, HL, ⟨Nat.le_refl _⟩, HI⟩
          case round =>
            clear HL HI
            obtain ⟨x, O1, L1, B1, m1, vB1, rfl, HL, HK, HI⟩ := hrel
            cases gk with
            | zero => exact absurd HL.out (by simp [impl_EvenPlies_1.l0])
            | succ g =>
              have H := HL.out
              rw [impl_EvenPlies_1.l0] at H
              clear HL
              by_cases hx : x < bd
              · rw [if_pos hx] at H
                by_cases hg : 0 ≤ i ∧ i < (l.length : Int) ∧ i < (O1.length : Int) ∧ 0 ≤ x ∧ x < (L1.length : Int)
                · rw [if_pos hg] at H
                  obtain ⟨g1, g2, g3, g4, g5⟩ := hg
                  obtain ⟨⟨O2, L2, B2, m2⟩, hput, H⟩ := Option.bind_eq_some_iff.mp H
                  simp only at H
                  by_cases hx2 : x < (L2.length : Int)
                  · rw [if_pos hx2] at H
                    have HP := Aside0.mk hput
                    have HL := Aside0.mk H
                    clear H hput
                    have hco : wr.cell? ⟨go, 0, none⟩ = some (.slice (some ⟨bo, 0, none⟩) O1.length co) := (blk_cell HI.out.ho 0).trans rfl
                    obtain ⟨hce, hfe⟩ := Kd.R_celln 0 HI.out.ro i g1 g3
                    go_wp2
                    have HI2 := Aside0.mk (HI.out.setO i x)
                    clear hco hce hfe HI
                    generalize wr.setCell ⟨bo, i.toNat, none⟩ (.int .i64 x) = W3 at *
                    have hcl3 : W3.cell? ⟨gl, 0, none⟩ = some (.slice (some ⟨bl, 0, none⟩) L1.length cl) := (blk_cell HI2.out.hl 0).trans rfl
                    have hcL3 : W3.cell? ⟨gL, 0, none⟩ = some (.slice A0 l.length c0) := (blk_cell HI2.out.hL 0).trans rfl
                    obtain ⟨hx3, hfx3⟩ := Kd.R_celln 0 HI2.out.rl x g4 g5
                    replace hx3 : W3.cell? ⟨bl, x.toNat, none⟩ = some (.int .i64 (rd L1 x)) := hx3
                    obtain ⟨ady, ey, hy0, hy1, hy2⟩ := at_T33 (Kd.C_below HCC.out HI2.out.b) i g1 g2
                    cases ey
                    go_still_tail 12, (by kernel_rfl)
                    change wpList _ _ _ _ _ (W3.drewN 1)
                    have HI4 := Aside0.mk (HI2.out.drew 1)
                    clear hcl3 hcL3 hx3 hfx3 hy0 hy1 hy2 HI2
                    generalize W3.drewN 1 = W4 at *
                    obtain ⟨hx4, hfx4⟩ := Kd.R_celln 0 HI4.out.rl x g4 g5
                    have hcf4 : W4.cell? ⟨gf, 0, none⟩ = some (.func (.func 47) #[] #[.pointer (some ⟨gl, 0, none⟩), .pointer (some ⟨gm, 0, none⟩), .pointer (some ⟨gL, 0, none⟩), .pointer (some ⟨go, 0, none⟩), .pointer (some ⟨gb, 0, none⟩), .pointer (some ⟨gp, 0, none⟩), .pointer (some ⟨gf, 0, none⟩)]) := (blk_cell HI4.out.hf 0).trans rfl
                    have nfb : ¬ gf = bl := HI4.out.ne.2.1.2.2.2.2.2.2.1
                    have nbf : ¬ bl = gf := fun e => nfb e.symm
                    have eg := impl_EvenPlies_1.eg
                    go_wp2_with (go_at_fn 47; refine (IHa.out g (by have := HK.out; omega) (wrap64 (i + 1)) (mx used (wrap64 (x + 1))) (O1.set i.toNat x) (L1.set x.toNat (wrap64 (rd L1 x + wrap64 (rd_T33 l i).f0))) B1 m1 vB1 _ O2 L2 B2 m2 (HI4.out.setL x _) HP.out).mono ?_; rintro e w6 ⟨rfl, vB2, hI6⟩; have HI6 := Aside0.mk hI6; clear hI6 HI4)
                    clear hx4 hfx4 hcf4 eg
                    all_goals
                      have hcl6 : w6.cell? ⟨gl, 0, none⟩ = some (.slice (some ⟨bl, 0, none⟩) L2.length cl) := (blk_cell HI6.out.hl 0).trans rfl
                      have hcL6 : w6.cell? ⟨gL, 0, none⟩ = some (.slice (some ady) l.length c0) := (blk_cell HI6.out.hL 0).trans rfl
                      obtain ⟨hx6, hfx6⟩ := Kd.R_celln 0 HI6.out.rl x g4 hx2
                      replace hx6 : w6.cell? ⟨bl, x.toNat, none⟩ = some (.int .i64 (rd L2 x)) := hx6
                      obtain ⟨ady2, ey, hy0, hy1, hy2⟩ := at_T33 (Kd.C_below HCC.out HI6.out.b) i g1 g2
                      cases ey
                      go_still_tail 12, (by kernel_rfl)
                      change wpList _ _ _ _ _ (w6.drewN 1)
                      have HI7 := Aside0.mk (HI6.out.drew 1)
                      clear hcl6 hcL6 hx6 hfx6 hy0 hy1 hy2 HI6
                      generalize w6.drewN 1 = W7 at *
                      obtain ⟨hx7, hfx7⟩ := Kd.R_celln 0 HI7.out.rl x g4 hx2
                      go_wp2
                      go_roundg g
                      case measure => omega
                      case rel => exact ⟨wrap64 (x + 1), O2, L2.set x.toNat (wrap64 (rd L2 x - wrap64 (rd_T33 l i).f0)), B2, m2, vB2, rfl, HL, ⟨by have := HK.out; omega⟩, ⟨HI7.out.setL x _⟩⟩
                  · rw [if_neg hx2] at H; cases H
                · rw [if_neg hg] at H; cases H
              · rw [if_neg hx] at H
                have e := Option.some.inj H
                simp only [Prod.mk.injEq] at e
                obtain ⟨rfl, rfl, rfl, rfl⟩ := e
                clear H
                go_wp2
                refine bodyPost_end (results_none rfl _ _ _) rfl ⟨rfl, vB1, HI.out⟩
        · have d0 : decide (m ≥ 0) = false := decide_eq_false hm0
          have d1 : decide (0 ≤ m) = false := decide_eq_false hm0
          clear h1
          go_enter Try.func47, Try.ntmps47
          go_wp2_with (first | (go_at_call 48; refine (slices_Max_int64_int64.calls _ cl L most _ (Kd.R_reads' HI.out.rl).2.2 (Kd.R_reads' HI.out.rl).2.1 HM.out).mono ?_; rintro e w2 ⟨rfl, rfl⟩))
          clear hcl hcm hcL hco hcp
          go_loopg [33] k (fun gq v33 W2 => ∃ (x : Int) (O1 L1 B1 : List Int) (m1 : Int) (vB1 : Value), v33 = .int .i64 x ∧ Aside0 (impl_EvenPlies_1.l0 l plies gq i used bd x O1 L1 B1 m1 = some (r1, r2, r3, r4)) ∧ Aside0 (gq ≤ k) ∧ Aside0 (impl_EvenPlies_1.Inv w W2 A0 c0 l plies gl gm gL go gb gp gf bo bl co cl O1 L1 B1 m1 vB1))
          case atStart => exact ⟨0, O, L, B, m, vB, rfl, HL, ⟨Nat.le_refl _⟩, HI⟩
          case round =>
            clear HL HI
            obtain ⟨x, O1, L1, B1, m1, vB1, rfl, HL, HK, HI⟩ := hrel
            cases gk with
            | zero => exact absurd HL.out (by simp [impl_EvenPlies_1.l0])
            | succ g =>
              have H := HL.out
              rw [impl_EvenPlies_1.l0] at H
              clear HL
              by_cases hx : x < bd
              · rw [if_pos hx] at H
                by_cases hg : 0 ≤ i ∧ i < (l.length : Int) ∧ i < (O1.length : Int) ∧ 0 ≤ x ∧ x < (L1.length : Int)
                · rw [if_pos hg] at H
                  obtain ⟨g1, g2, g3, g4, g5⟩ := hg
                  obtain ⟨⟨O2, L2, B2, m2⟩, hput, H⟩ := Option.bind_eq_some_iff.mp H
                  simp only at H
                  by_cases hx2 : x < (L2.length : Int)
                  · rw [if_pos hx2] at H
                    have HP := Aside0.mk hput
                    have HL := Aside0.mk H
                    clear H hput
                    have hco : wr.cell? ⟨go, 0, none⟩ = some (.slice (some ⟨bo, 0, none⟩) O1.length co) := (blk_cell HI.out.ho 0).trans rfl
                    obtain ⟨hce, hfe⟩ := Kd.R_celln 0 HI.out.ro i g1 g3
                    go_wp2
                    have HI2 := Aside0.mk (HI.out.setO i x)
                    clear hco hce hfe HI
                    generalize wr.setCell ⟨bo, i.toNat, none⟩ (.int .i64 x) = W3 at *
                    have hcl3 : W3.cell? ⟨gl, 0, none⟩ = some (.slice (some ⟨bl, 0, none⟩) L1.length cl) := (blk_cell HI2.out.hl 0).trans rfl
                    have hcL3 : W3.cell? ⟨gL, 0, none⟩ = some (.slice A0 l.length c0) := (blk_cell HI2.out.hL 0).trans rfl
                    obtain ⟨hx3, hfx3⟩ := Kd.R_celln 0 HI2.out.rl x g4 g5
                    replace hx3 : W3.cell? ⟨bl, x.toNat, none⟩ = some (.int .i64 (rd L1 x)) := hx3
                    obtain ⟨ady, ey, hy0, hy1, hy2⟩ := at_T33 (Kd.C_below HCC.out HI2.out.b) i g1 g2
                    cases ey
                    go_still_tail 12, (by kernel_rfl)
                    change wpList _ _ _ _ _ (W3.drewN 1)
                    have HI4 := Aside0.mk (HI2.out.drew 1)
                    clear hcl3 hcL3 hx3 hfx3 hy0 hy1 hy2 HI2
                    generalize W3.drewN 1 = W4 at *
                    obtain ⟨hx4, hfx4⟩ := Kd.R_celln 0 HI4.out.rl x g4 g5
                    have hcf4 : W4.cell? ⟨gf, 0, none⟩ = some (.func (.func 47) #[] #[.pointer (some ⟨gl, 0, none⟩), .pointer (some ⟨gm, 0, none⟩), .pointer (some ⟨gL, 0, none⟩), .pointer (some ⟨go, 0, none⟩), .pointer (some ⟨gb, 0, none⟩), .pointer (some ⟨gp, 0, none⟩), .pointer (some ⟨gf, 0, none⟩)]) := (blk_cell HI4.out.hf 0).trans rfl
                    have nfb : ¬ gf = bl := HI4.out.ne.2.1.2.2.2.2.2.2.1
                    have nbf : ¬ bl = gf := fun e => nfb e.symm
                    have eg := impl_EvenPlies_1.eg
                    go_wp2_with (go_at_fn 47; refine (IHa.out g (by have := HK.out; omega) (wrap64 (i + 1)) (mx used (wrap64 (x + 1))) (O1.set i.toNat x) (L1.set x.toNat (wrap64 (rd L1 x + wrap64 (rd_T33 l i).f0))) B1 m1 vB1 _ O2 L2 B2 m2 (HI4.out.setL x _) HP.out).mono ?_; rintro e w6 ⟨rfl, vB2, hI6⟩; have HI6 := Aside0.mk hI6; clear hI6 HI4)
                    clear hx4 hfx4 hcf4 eg
                    all_goals
                      have hcl6 : w6.cell? ⟨gl, 0, none⟩ = some (.slice (some ⟨bl, 0, none⟩) L2.length cl) := (blk_cell HI6.out.hl 0).trans rfl
                      have hcL6 : w6.cell? ⟨gL, 0, none⟩ = some (.slice (some ady) l.length c0) := (blk_cell HI6.out.hL 0).trans rfl
                      obtain ⟨hx6, hfx6⟩ := Kd.R_celln 0 HI6.out.rl x g4 hx2
                      replace hx6 : w6.cell? ⟨bl, x.toNat, none⟩ = some (.int .i64 (rd L2 x)) := hx6
                      obtain ⟨ady2, ey, hy0, hy1, hy2⟩ := at_T33 (Kd.C_below HCC.out HI6.out.b) i g1 g2
                      cases ey
                      go_still_tail 12, (by kernel_rfl)
                      change wpList _ _ _ _ _ (w6.drewN 1)
                      have HI7 := Aside0.mk (HI6.out.drew 1)
                      clear hcl6 hcL6 hx6 hfx6 hy0 hy1 hy2 HI6
                      generalize w6.drewN 1 = W7 at *
                      obtain ⟨hx7, hfx7⟩ := Kd.R_celln 0 HI7.out.rl x g4 hx2
                      go_wp2
                      go_roundg g
                      case measure => omega
                      case rel => exact ⟨wrap64 (x + 1), O2, L2.set x.toNat (wrap64 (rd L2 x - wrap64 (rd_T33 l i).f0)), B2, m2, vB2, rfl, HL, ⟨by have := HK.out; omega⟩, ⟨HI7.out.setL x _⟩⟩
                  · rw [if_neg hx2] at H; cases H
                · rw [if_neg hg] at H; cases H
              · rw [if_neg hx] at H
                have e := Option.some.inj H
                simp only [Prod.mk.injEq] at e
                obtain ⟨rfl, rfl, rfl, rfl⟩ := e
                clear H
                go_wp2
                refine bodyPost_end (results_none rfl _ _ _) rfl ⟨rfl, vB1, HI.out⟩

/-! ### impl_EvenPlies: function 20 -/
def impl_EvenPlies.f (k : Nat) (l0 : List S33) (a1 : Int) : Option (List Int × Int × Int) :=
  (impl_within.f a1 1 6).bind fun t => (impl_yarnsCode.f l0 t).bind fun c =>
    if c = 0 then (if a1 > (l0.length : Int) then some ([], 0, 6)
      else if 0 ≤ a1 ∧ a1 ≤ 1048576 ∧ l0.length ≤ 1048576 then (impl_EvenPlies_1.f l0 a1 k 0 0 (List.replicate l0.length 0) (List.replicate a1.toNat 0) [] (-1)).bind fun r => some (r.2.2.1, r.2.2.2, 0)
      else none)
    else some ([], 0, c)
theorem impl_EvenPlies.mono : ∀ a0 a1 k, LeO (impl_EvenPlies.f k a0 a1) (impl_EvenPlies.f (k + 1) a0 a1) := by
  intro a0 a1 k
  unfold impl_EvenPlies.f
  repeat' first
    | exact (impl_EvenPlies_1.mono_l _ _ _).1 _ _ _ _ _ _
    | (with_reducible exact LeO.refl _)
    | (with_reducible refine LeO.ite ?_ ?_)
    | (with_reducible refine LeO.bind ?_ (fun _ => ?_))
theorem impl_EvenPlies.keepA {w : World} {o : Obj} {a : Addr} {v : Value} (h : w.cell? a = some v) : (w.alloc o).cell? a = some v :=
  (((Below.refl w.heap.size w).alloc (Nat.le_refl _) o).cell (World.block_lt_of_cell? w a h)).trans h
theorem impl_EvenPlies.keepD {w : World} {a : Addr} {v : Value} (h : w.cell? a = some v) : w.drew.cell? a = some v := h
theorem impl_EvenPlies.keepS {w : World} {a p : Addr} {u v : Value} (hne : p.block ≠ a.block) (h : w.cell? a = some v) : (w.setCell p u).cell? a = some v :=
  (World.cell?_setCell_far _ _ _ _ hne).trans h
theorem impl_EvenPlies.top {w : World} {o : Obj} {g : Nat} (h : g = w.heap.size) : (w.alloc o).heap[g]? = some o := by
  subst h; exact blk_new w o
theorem impl_EvenPlies.mk (w : World) (n : Int) (h0 : 0 ≤ n) (h1 : n ≤ 1048576) : (Instr.makeSlice 46 (.int .i64 n) (.int .i64 n)).run Try.prog w = .ok (.slice (some ⟨w.heap.size, 0, none⟩) n.toNat n.toNat) (w.alloc (.cells (madeCells #[.int .i64 0] n.toNat) 2 (0, 0))) := by
  obtain ⟨i0, hi, hz, hs, hb⟩ := info_parts (show (Try.prog.info? 2).map (fun i => (i.zero, i.size, i.bytes)) = some (some (.int .i64 0), 1, 8) by kernel_rfl)
  have z := run_make (P := Try.prog) w 46 2 i0 (.int .i64 0) Try.underlying46 hi hz .i64 .i64 n n h0 (Int.le_refl _) (by rw [hb]; omega) (by omega)
  rw [hs, Nat.mul_one] at z
  exact z
theorem impl_EvenPlies.zeros {W : World} {base g n : Nat} (h : W.heap[g]? = some (.cells (madeCells #[.int .i64 0] n) 2 (0, 0))) (hb : base ≤ g) (hn : n ≤ 1048576) : Kd.R (Kd.int .i64) 2 W base (fun _ => True) (.slice (some ⟨g, 0, none⟩) n n) (List.replicate n 0) := by
  rw [← Nat.mul_one n] at h
  refine ⟨fun _ _ => trivial, (madeCells #[.int .i64 0] (n * 1)).toList, ⟨?_, .inr ⟨g, n, madeCells #[.int .i64 0] (n * 1), ?_, hb, h, ?_, ?_, ?_, ?_⟩⟩, Kd.reps_made (z := .int .i64 0) (z0 := (0 : Int)) rfl (by decide) rfl n⟩
  · simp [size_madeCells, Kd.int, Kd.scalar]
  · simp
  · simp
  · simp [maxLen]; omega
  · simp [size_madeCells, Kd.int, Kd.scalar]
  · exact List.take_of_length_le (by simp [size_madeCells, Kd.int, Kd.scalar])
set_option maxHeartbeats 4000000 in
theorem impl_EvenPlies.len_still (A0 : Option Addr) (c0 : Nat) (l0 : List S33) (w : World) :
    Calls Try.prog 46 #[.slice A0 l0.length c0] w fun e w' => e = .returned (.int .i64 (l0.length : Int)) ∧ w' = w := by
  go_enter Try.func46, Try.ntmps46
  go_wp2
  go_ret
  exact ⟨rfl, rfl⟩
set_option maxHeartbeats 4000000 in
theorem impl_EvenPlies.within_still (a0 a1 a2 : Int) (r : Bool) (w : World) (h : impl_within.f a0 a1 a2 = some r) :
    Calls Try.prog 45 #[.int .i64 a0, .int .i64 a1, .int .i64 a2] w fun e w' => e = .returned (.bool r) ∧ w' = w := by
  have H : (if a1 ≤ a0 then (some (decide (a0 ≤ a2))) else (some false)) = some r := h
  clear h
  by_cases c4 : a1 ≤ a0
  · rw [if_pos c4] at H
    have c4b0 : decide (a1 ≤ a0) = true := decide_eq_true c4
    clear c4
    obtain rfl := Option.some.inj H
    go_enter Try.func45, Try.ntmps45
    go_wp2
    go_ret
    exact ⟨by first | rfl | (simp; done) | (simp [*]; done), rfl⟩
  · rw [if_neg c4] at H
    have c4b0 : decide (a1 ≤ a0) = false := decide_eq_false c4
    clear c4
    obtain rfl := Option.some.inj H
    go_enter Try.func45, Try.ntmps45
    go_wp2
    go_ret
    exact ⟨by first | rfl | (simp; done) | (simp [*]; done), rfl⟩
set_option maxHeartbeats 8000000 in
set_option maxRecDepth 100000 in
theorem impl_EvenPlies.calls (k : Nat) (A0 : Option Addr) (c0 : Nat) (l0 : List S33) (a1 : Int) (r1 : List Int) (r2 r3 : Int) (w : World) (hr0 : Kd.C k33 w A0 l0.length l0) (hc0 : l0.length ≤ c0) (h : impl_EvenPlies.f k l0 a1 = some (r1, r2, r3)) :
    Calls Try.prog 20 #[.slice A0 l0.length c0, .int .i64 a1] w fun e w' => ∃ v0_ : Value, e = .returned (.tuple #[v0_, .int .i64 r2, .int .i64 r3]) ∧ Kd.R (Kd.int .i64) 2 w' w.heap.size (fun _ => True) v0_ r1 ∧ Below w.heap.size w w' := by
  unfold impl_EvenPlies.f at h
  obtain ⟨t, ht, h⟩ := Option.bind_eq_some_iff.mp h
  obtain ⟨c, hc, h⟩ := Option.bind_eq_some_iff.mp h
  have HT := Aside0.mk ht
  have HC := Aside0.mk hc
  have HR := Aside0.mk hr0
  have HC0 := Aside0.mk hc0
  clear ht hc hr0 hc0
  by_cases hz : c = 0
  · rw [if_pos hz] at h
    subst hz
    by_cases hgt : a1 > (l0.length : Int)
    · rw [if_pos hgt] at h
      have e := Option.some.inj h
      simp only [Prod.mk.injEq] at e
      obtain ⟨rfl, rfl, rfl⟩ := e
      clear h
      go_enter Try.func20, Try.ntmps20
      go_wp2_with (first | ((with_reducible refine gate_dst (N := 2) rfl ?_); refine box_event ?hg (N := 2) ?hd (cs := #[.slice A0 l0.length c0]) (t := 24) ?hr ?_; (case hd => rfl); (case hg => rfl); (case hr => first | (go_simp; done) | (go_simp; rfl)); intro gL hgL w1 hL1 hb1; have BL := Aside0.mk hL1; have B1 := Aside0.mk hb1; have GL := Aside0.mk hgL; clear hL1 hb1 hgL) | ((with_reducible refine gate_dst (N := 3) rfl ?_); refine box_event ?hg (N := 3) ?hd (cs := #[.int .i64 a1]) (t := 2) ?hr ?_; (case hd => rfl); (case hg => rfl); (case hr => first | (go_simp; done) | (go_simp; rfl)); intro gp hgp w2 hp2 hb2; have BP := Aside0.mk hp2; have n0_ := Aside0.mk (blk_below BL.out hb2); have B2 := Aside0.mk (below_then B1.out B1.out.size hb2); have LP := Aside0.mk (show gL < gp by rw [hgp]; exact blk_lt BL.out); clear BL B1 hp2 hb2 hgp; have BL := n0_; clear n0_))
      have hcL : w2.cell? ⟨gL, 0, none⟩ = some (.slice A0 l0.length c0) := (blk_cell BL.out 0).trans rfl
      have hcp : w2.cell? ⟨gp, 0, none⟩ = some (.int .i64 a1) := (blk_cell BP.out 0).trans rfl
      go_still_tail 3, (by kernel_rfl)
      still_call (impl_EvenPlies.within_still a1 1 6 t _ HT.out)
      refine wpStill_nil ?_
      change wpList _ _ _ _ _ (w2.drewN 1)
      have BL3 := Aside0.mk (blk_drewN BL.out 1)
      have BP3 := Aside0.mk (blk_drewN BP.out 1)
      have B3 := Aside0.mk (pw_below_drewN B2.out 1)
      clear BL BP B2 hcL hcp
      generalize w2.drewN 1 = w3 at *
      have hz1 : ((0 : Int) != 0) = false := rfl
      go_wp2_with (go_at_call 36; refine (impl_yarnsCode.calls A0 c0 l0 t 0 _ (Kd.C_below HR.out B3.out) HC0.out HC.out).mono ?_; rintro e w4 ⟨rfl, hb4⟩; have BL4 := Aside0.mk (blk_below BL3.out hb4); have BP4 := Aside0.mk (blk_below BP3.out hb4); have B4 := Aside0.mk (below_then B3.out B3.out.size hb4); clear hb4 BL3 BP3 B3)
      have hcL : w4.cell? ⟨gL, 0, none⟩ = some (.slice A0 l0.length c0) := (blk_cell BL4.out 0).trans rfl
      have hcp : w4.cell? ⟨gp, 0, none⟩ = some (.int .i64 a1) := (blk_cell BP4.out 0).trans rfl
      refine wp_region_still_lit (by kernel_rfl) (by kernel_rfl) ?_
      repeat still_step
      still_call (impl_EvenPlies.len_still A0 c0 l0 _)
      repeat still_step
      refine wpStill_nil ?_
      change Exit.then _ _ _ _ (w4.drewN 1)
      have BL5 := Aside0.mk (blk_drewN BL4.out 1)
      have BP5 := Aside0.mk (blk_drewN BP4.out 1)
      have B5 := Aside0.mk (pw_below_drewN B4.out 1)
      clear BL4 BP4 B4 hcL hcp
      generalize w4.drewN 1 = w5 at *
      have hgt1 : (l0.length : Int) < a1 := by omega
      go_wp2
      go_ret3
      exact ⟨_, rfl, Kd.R_nil _ _ _ _ _, B5.out⟩
    · rw [if_neg hgt] at h
      have HH := Aside0.mk h
      clear h
      go_enter Try.func20, Try.ntmps20
      go_wp2_with (first | ((with_reducible refine gate_dst (N := 2) rfl ?_); refine box_event ?hg (N := 2) ?hd (cs := #[.slice A0 l0.length c0]) (t := 24) ?hr ?_; (case hd => rfl); (case hg => rfl); (case hr => first | (go_simp; done) | (go_simp; rfl)); intro gL hgL w1 hL1 hb1; have BL := Aside0.mk hL1; have B1 := Aside0.mk hb1; have GL := Aside0.mk hgL; clear hL1 hb1 hgL) | ((with_reducible refine gate_dst (N := 3) rfl ?_); refine box_event ?hg (N := 3) ?hd (cs := #[.int .i64 a1]) (t := 2) ?hr ?_; (case hd => rfl); (case hg => rfl); (case hr => first | (go_simp; done) | (go_simp; rfl)); intro gp hgp w2 hp2 hb2; have BP := Aside0.mk hp2; have n0_ := Aside0.mk (blk_below BL.out hb2); have B2 := Aside0.mk (below_then B1.out B1.out.size hb2); have LP := Aside0.mk (show gL < gp by rw [hgp]; exact blk_lt BL.out); clear BL B1 hp2 hb2 hgp; have BL := n0_; clear n0_))
      have hcL : w2.cell? ⟨gL, 0, none⟩ = some (.slice A0 l0.length c0) := (blk_cell BL.out 0).trans rfl
      have hcp : w2.cell? ⟨gp, 0, none⟩ = some (.int .i64 a1) := (blk_cell BP.out 0).trans rfl
      go_still_tail 3, (by kernel_rfl)
      still_call (impl_EvenPlies.within_still a1 1 6 t _ HT.out)
      refine wpStill_nil ?_
      change wpList _ _ _ _ _ (w2.drewN 1)
      have BL3 := Aside0.mk (blk_drewN BL.out 1)
      have BP3 := Aside0.mk (blk_drewN BP.out 1)
      have B3 := Aside0.mk (pw_below_drewN B2.out 1)
      clear BL BP B2 hcL hcp
      generalize w2.drewN 1 = w3 at *
      have hz1 : ((0 : Int) != 0) = false := rfl
      go_wp2_with (go_at_call 36; refine (impl_yarnsCode.calls A0 c0 l0 t 0 _ (Kd.C_below HR.out B3.out) HC0.out HC.out).mono ?_; rintro e w4 ⟨rfl, hb4⟩; have BL4 := Aside0.mk (blk_below BL3.out hb4); have BP4 := Aside0.mk (blk_below BP3.out hb4); have B4 := Aside0.mk (below_then B3.out B3.out.size hb4); clear hb4 BL3 BP3 B3)
      have hcL : w4.cell? ⟨gL, 0, none⟩ = some (.slice A0 l0.length c0) := (blk_cell BL4.out 0).trans rfl
      have hcp : w4.cell? ⟨gp, 0, none⟩ = some (.int .i64 a1) := (blk_cell BP4.out 0).trans rfl
      refine wp_region_still_lit (by kernel_rfl) (by kernel_rfl) ?_
      repeat still_step
      still_call (impl_EvenPlies.len_still A0 c0 l0 _)
      repeat still_step
      refine wpStill_nil ?_
      change Exit.then _ _ _ _ (w4.drewN 1)
      have BL5 := Aside0.mk (blk_drewN BL4.out 1)
      have BP5 := Aside0.mk (blk_drewN BP4.out 1)
      have B5 := Aside0.mk (pw_below_drewN B4.out 1)
      clear BL4 BP4 B4 hcL hcp
      generalize w4.drewN 1 = w5 at *
      have hgt1 : ¬ (l0.length : Int) < a1 := by omega
      go_upto_region 8 with (first | ((with_reducible refine gate_dst (N := 8) rfl ?_); refine box_event ?hg (N := 8) ?hd (cs := #[.slice none 0 0]) (t := 46) ?hr ?_; (case hd => rfl); (case hg => rfl); (case hr => first | (go_simp; done) | (go_simp; rfl)); intro gb hgb w6 hb6 hbb; have BB6 := Aside0.mk hb6; have BL6 := Aside0.mk (blk_below BL5.out hbb); have BP6 := Aside0.mk (blk_below BP5.out hbb); have B6 := Aside0.mk (below_then B5.out B5.out.size hbb); have LB := Aside0.mk (show gp < gb by rw [hgb]; exact blk_lt BP5.out); clear BL5 BP5 B5 hb6 hbb hgb) | ((with_reducible refine gate_dst (N := 9) rfl ?_); refine box_event ?hg (N := 9) ?hd (cs := #[.int .i64 0]) (t := 2) ?hr ?_; (case hd => rfl); (case hg => rfl); (case hr => first | (go_simp; done) | (go_simp; rfl)); intro gm hgm w7 hm7 hbb; have BM7 := Aside0.mk hm7; have BB7 := Aside0.mk (blk_below BB6.out hbb); have BL7 := Aside0.mk (blk_below BL6.out hbb); have BP7 := Aside0.mk (blk_below BP6.out hbb); have B7 := Aside0.mk (below_then B6.out B6.out.size hbb); have LM := Aside0.mk (show gb < gm by rw [hgm]; exact blk_lt BB6.out); clear BL6 BP6 BB6 B6 hm7 hbb hgm; have hcm : w7.cell? ⟨gm, 0, none⟩ = some (.int .i64 0) := (blk_cell BM7.out 0).trans rfl; have hfm := blk_frozen BM7.out 0))
      have LG := Aside0.mk (show w.heap.size ≤ gL by rw [GL.out]; exact Nat.le_refl _)
      have BM8 := Aside0.mk (blk_put (cs := #[.int .i64 0]) BM7.out 0 (.int .i64 (-1)) rfl)
      have BB8 := Aside0.mk (blk_far BB7.out (p := ⟨gm, 0, none⟩) (by have := LM.out; show gb ≠ gm; omega) (.int .i64 (-1)))
      have BL8 := Aside0.mk (blk_far BL7.out (p := ⟨gm, 0, none⟩) (by have := LM.out; have := LB.out; have := LP.out; show gL ≠ gm; omega) (.int .i64 (-1)))
      have BP8 := Aside0.mk (blk_far BP7.out (p := ⟨gm, 0, none⟩) (by have := LM.out; have := LB.out; show gp ≠ gm; omega) (.int .i64 (-1)))
      have B8 := Aside0.mk (below_set (g := gm) (j := 0) (v := .int .i64 (-1)) B7.out (by have := LM.out; have := LB.out; have := LP.out; have := LG.out; omega))
      clear BM7 BB7 BL7 BP7 B7 hcm hfm
      generalize w7.setCell ⟨gm, 0, none⟩ (.int .i64 (-1)) = w8 at *
      have hcL : w8.cell? ⟨gL, 0, none⟩ = some (.slice A0 l0.length c0) := (blk_cell BL8.out 0).trans rfl
      have hcp : w8.cell? ⟨gp, 0, none⟩ = some (.int .i64 a1) := (blk_cell BP8.out 0).trans rfl
      have H := HH.out
      by_cases hb : 0 ≤ a1 ∧ a1 ≤ 1048576 ∧ l0.length ≤ 1048576
      · rw [if_pos hb] at H
        obtain ⟨q0, q1, q2⟩ := hb
        have HK := Aside0.mk H
        clear H HH
        go_cut [10, 11] (fun v10 v11 wc => ∃ (go gl bo bl : Nat), v10 = .pointer (some ⟨go, 0, none⟩) ∧ v11 = .pointer (some ⟨gl, 0, none⟩) ∧ Aside0 (Below w8.heap.size w8 wc) ∧ Aside0 (w8.heap.size ≤ go ∧ w8.heap.size ≤ gl ∧ w8.heap.size ≤ bo ∧ w8.heap.size ≤ bl) ∧ Aside0 (go ≠ gl ∧ go ≠ bo ∧ go ≠ bl ∧ gl ≠ bo ∧ gl ≠ bl ∧ bo ≠ bl) ∧ Aside0 (wc.heap[go]? = some (.cells #[.slice (some ⟨bo, 0, none⟩) l0.length l0.length] 46 (0, 0))) ∧ Aside0 (wc.heap[gl]? = some (.cells #[.slice (some ⟨bl, 0, none⟩) a1.toNat a1.toNat] 46 (0, 0))) ∧ Aside0 (wc.heap[bo]? = some (.cells (madeCells #[.int .i64 0] l0.length) 2 (0, 0))) ∧ Aside0 (wc.heap[bl]? = some (.cells (madeCells #[.int .i64 0] a1.toNat) 2 (0, 0))))
        case first =>
          as_aux_lemma =>
          have q3 : l0.length * 8 ≤ 281474976710656 := by omega
          have q4 : a1.toNat * 8 ≤ 281474976710656 := by omega
          have mk1 : ∀ w : World, (Instr.makeSlice 46 (.int .i64 (l0.length : Int)) (.int .i64 (l0.length : Int))).run Try.prog w = .ok (.slice (some ⟨w.heap.size, 0, none⟩) l0.length l0.length) (w.alloc (.cells (madeCells #[.int .i64 0] l0.length) 2 (0, 0))) := fun w => by
            have z := impl_EvenPlies.mk w (l0.length : Int) (by omega) (by omega)
            rw [Int.toNat_natCast] at z; exact z
          have mk2 : ∀ w : World, (Instr.makeSlice 46 (.int .i64 a1) (.int .i64 a1)).run Try.prog w = .ok (.slice (some ⟨w.heap.size, 0, none⟩) a1.toNat a1.toNat) (w.alloc (.cells (madeCells #[.int .i64 0] a1.toNat) 2 (0, 0))) := fun w => impl_EvenPlies.mk w a1 q0 q1
          have lL := blk_lt BL8.out
          have lP := blk_lt BP8.out
          go_region_held3 (fun w' => w'.cell? ⟨gL, 0, none⟩ = some (.slice A0 l0.length c0) ∧ w'.cell? ⟨gp, 0, none⟩ = some (.int .i64 a1)) (constructor <;> (repeat (first | exact hcL | exact hcp | refine impl_EvenPlies.keepD ?_ | refine impl_EvenPlies.keepA ?_ | refine impl_EvenPlies.keepS (by simp; omega) ?_))) (fail)
          all_goals
            (try go_wp2)
            go_meet
            case rel =>
              (repeat apply Exists.intro)
              refine ⟨rfl, rfl, ⟨?hB⟩, ⟨?hG⟩, ⟨?hN⟩, ⟨?hO⟩, ⟨?hL⟩, ⟨?ho⟩, ⟨?hl⟩⟩
              case hO => repeat (first | exact impl_EvenPlies.top (by simp) | (with_reducible refine blk_drew ?_) | (with_reducible refine blk_alloc ?_ _) | refine blk_far ?_ (by simp; done) _ | refine blk_far ?_ (by simp; omega) _ | refine blk_put (cs := #[.slice none 0 0]) ?_ 0 _ rfl)
              case hL => repeat (first | exact impl_EvenPlies.top (by simp) | (with_reducible refine blk_drew ?_) | (with_reducible refine blk_alloc ?_ _) | refine blk_far ?_ (by simp; done) _ | refine blk_far ?_ (by simp; omega) _ | refine blk_put (cs := #[.slice none 0 0]) ?_ 0 _ rfl)
              case ho => repeat (first | exact impl_EvenPlies.top (by simp) | (with_reducible refine blk_drew ?_) | (with_reducible refine blk_alloc ?_ _) | refine blk_far ?_ (by simp; done) _ | refine blk_far ?_ (by simp; omega) _)
              case hl => repeat (first | exact impl_EvenPlies.top (by simp) | (with_reducible refine blk_drew ?_) | (with_reducible refine blk_alloc ?_ _) | refine blk_far ?_ (by simp; done) _ | refine blk_far ?_ (by simp; omega) _)
              case hB => repeat (first | exact Below.refl _ _ | (with_reducible refine below_drew1 ?_) | (with_reducible refine below_alloc ?_ _) | refine below_set ?_ (by omega))
              case hG => omega
              case hN => omega
        case rest =>
          as_aux_lemma =>
          clear hcL hcp
          obtain ⟨go, gl, bo, bl, rfl, rfl, HBc, HG, HN, HO, HL, Hbo, Hbl⟩ := hcut
          have BM9 := Aside0.mk (blk_below BM8.out HBc.out)
          have BB9 := Aside0.mk (blk_below BB8.out HBc.out)
          have BL9 := Aside0.mk (blk_below BL8.out HBc.out)
          have BP9 := Aside0.mk (blk_below BP8.out HBc.out)
          have B9 := Aside0.mk (below_then B8.out B8.out.size HBc.out)
          have LM8 := Aside0.mk (blk_lt BM8.out)
          clear BM8 BB8 BL8 BP8 B8
          have hst : ∀ (fn : Fn) (first cap : Array Value) (w : World) (a : Addr) (m : Mode), (store a (.func fn first cap) m).run Try.prog w = stored Try.prog w a (.func fn first cap) m := fun _ _ _ w a m => run_store _ w a _ m rfl
          have hmf : ∀ (fn : Fn) (first cap : Array Value) (w : World), (Instr.makeFunc fn first cap).run Try.prog w = .ok (.func fn first cap) w := fun _ _ _ _ => rfl
          go_upto_region 11 with (first | ((with_reducible refine gate_dst (N := 12) rfl ?_); refine box_event ?hg (N := 12) ?hd (cs := #[.nilFunc]) (t := 73) ?hr ?_; (case hd => rfl); (case hg => rfl); (case hr => first | (go_simp; done) | (go_simp; rfl)); intro gf hgf w10 hf10 hbb; have BF10 := Aside0.mk hf10; have BM10 := Aside0.mk (blk_below BM9.out hbb); have BB10 := Aside0.mk (blk_below BB9.out hbb); have BL10 := Aside0.mk (blk_below BL9.out hbb); have BP10 := Aside0.mk (blk_below BP9.out hbb); have HO10 := Aside0.mk (blk_below HO.out hbb); have HL10 := Aside0.mk (blk_below HL.out hbb); have Hbo10 := Aside0.mk (blk_below Hbo.out hbb); have Hbl10 := Aside0.mk (blk_below Hbl.out hbb); have LF := Aside0.mk (show go < gf ∧ gl < gf ∧ bo < gf ∧ bl < gf from by rw [hgf]; exact ⟨blk_lt HO.out, blk_lt HL.out, blk_lt Hbo.out, blk_lt Hbl.out⟩); have B10 := Aside0.mk (below_then B9.out B9.out.size hbb); clear BM9 BB9 BL9 BP9 B9 HO HL Hbo Hbl hf10 hbb hgf; have hcf : w10.cell? ⟨gf, 0, none⟩ = some .nilFunc := (blk_cell BF10.out 0).trans rfl; have hff := blk_frozen BF10.out 0))
          have BF11 := Aside0.mk (blk_put (cs := #[.nilFunc]) BF10.out 0 (.func (.func 47) #[] #[.pointer (some ⟨gl, 0, none⟩), .pointer (some ⟨gm, 0, none⟩), .pointer (some ⟨gL, 0, none⟩), .pointer (some ⟨go, 0, none⟩), .pointer (some ⟨gb, 0, none⟩), .pointer (some ⟨gp, 0, none⟩), .pointer (some ⟨gf, 0, none⟩)]) rfl)
          have L9 := Aside0.mk (show w.heap.size ≤ gL ∧ gL < gp ∧ gp < gb ∧ gb < gm ∧ gm < go ∧ gm < gl ∧ gm < bo ∧ gm < bl ∧ go < gf ∧ gl < gf ∧ bo < gf ∧ bl < gf from by
            have := LG.out; have := LP.out; have := LB.out; have := LM.out; have := LM8.out; have := HG.out; have := LF.out; omega)
          have HI : Aside0 (impl_EvenPlies_1.Inv w (w10.setCell ⟨gf, 0, none⟩ (.func (.func 47) #[] #[.pointer (some ⟨gl, 0, none⟩), .pointer (some ⟨gm, 0, none⟩), .pointer (some ⟨gL, 0, none⟩), .pointer (some ⟨go, 0, none⟩), .pointer (some ⟨gb, 0, none⟩), .pointer (some ⟨gp, 0, none⟩), .pointer (some ⟨gf, 0, none⟩)])) A0 c0 l0 a1 gl gm gL go gb gp gf bo bl l0.length a1.toNat (List.replicate l0.length 0) (List.replicate a1.toNat 0) [] (-1) (.slice none 0 0)) := ⟨by
            have q := L9.out
            have hbo := blk_far Hbo10.out (p := ⟨gf, 0, none⟩) (by show bo ≠ gf; omega) (.func (.func 47) #[] #[.pointer (some ⟨gl, 0, none⟩), .pointer (some ⟨gm, 0, none⟩), .pointer (some ⟨gL, 0, none⟩), .pointer (some ⟨go, 0, none⟩), .pointer (some ⟨gb, 0, none⟩), .pointer (some ⟨gp, 0, none⟩), .pointer (some ⟨gf, 0, none⟩)])
            have hbl := blk_far Hbl10.out (p := ⟨gf, 0, none⟩) (by show bl ≠ gf; omega) (.func (.func 47) #[] #[.pointer (some ⟨gl, 0, none⟩), .pointer (some ⟨gm, 0, none⟩), .pointer (some ⟨gL, 0, none⟩), .pointer (some ⟨go, 0, none⟩), .pointer (some ⟨gb, 0, none⟩), .pointer (some ⟨gp, 0, none⟩), .pointer (some ⟨gf, 0, none⟩)])
            refine ⟨below_set B10.out (by omega), ?_, ?_, blk_far BL10.out (by show gL ≠ gf; omega) _, blk_far BP10.out (by show gp ≠ gf; omega) _, ?_, ?_, blk_far BB10.out (by show gb ≠ gf; omega) _, blk_far BM10.out (by show gm ≠ gf; omega) _, BF11.out, ?_, ?_, Kd.R_nil _ _ _ _ _, by simp [Value.ownBlock], by simp [Value.ownBlock], by simp [Value.ownBlock]⟩
            · intro g hg
              simp only [List.mem_cons, List.not_mem_nil, or_false] at hg
              omega
            · have hn := HN.out
              simp only [List.nodup_cons, List.mem_cons, List.not_mem_nil, or_false, not_or, List.nodup_nil, and_true, not_false_eq_true]
              refine ⟨⟨?_, ?_, ?_, ?_, ?_, ?_, ?_, ?_⟩, ⟨?_, ?_, ?_, ?_, ?_, ?_, ?_⟩, ⟨?_, ?_, ?_, ?_, ?_, ?_⟩, ⟨?_, ?_, ?_, ?_, ?_⟩, ⟨?_, ?_, ?_, ?_⟩, ⟨?_, ?_, ?_⟩, ⟨?_, ?_⟩, ?_⟩ <;> omega
            · rw [List.length_replicate]; exact blk_far HO10.out (by show go ≠ gf; omega) _
            · rw [List.length_replicate]; exact blk_far HL10.out (by show gl ≠ gf; omega) _
            · rw [List.length_replicate]; exact impl_EvenPlies.zeros hbo (by omega) q2
            · rw [List.length_replicate]; exact impl_EvenPlies.zeros hbl (by omega) (by omega)⟩
          clear BF10 BM10 BB10 BL10 BP10 HO10 HL10 Hbo10 Hbl10 B10 BF11 hcf hff
          generalize w10.setCell ⟨gf, 0, none⟩ _ = w11 at *
          obtain ⟨⟨O2, L2, B2, m2⟩, hput, hk⟩ := Option.bind_eq_some_iff.mp HK.out
          have e := Option.some.inj hk
          simp only [Prod.mk.injEq] at e
          obtain ⟨rfl, rfl, rfl⟩ := e
          have HP := Aside0.mk hput
          clear hk hput HK
          have hcf : w11.cell? ⟨gf, 0, none⟩ = some (.func (.func 47) #[] #[.pointer (some ⟨gl, 0, none⟩), .pointer (some ⟨gm, 0, none⟩), .pointer (some ⟨gL, 0, none⟩), .pointer (some ⟨go, 0, none⟩), .pointer (some ⟨gb, 0, none⟩), .pointer (some ⟨gp, 0, none⟩), .pointer (some ⟨gf, 0, none⟩)]) := (blk_cell HI.out.hf 0).trans rfl
          have eg := impl_EvenPlies_1.eg
          go_wp2_with (go_at_fn 47; refine (impl_EvenPlies_1.calls w A0 c0 l0 a1 gl gm gL go gb gp gf bo bl l0.length a1.toNat HR.out k 0 0 _ _ [] (-1) (.slice none 0 0) _ O2 L2 B2 m2 HI.out HP.out).mono ?_; rintro e w12 ⟨rfl, vB2, hI⟩; have HI12 := Aside0.mk hI; clear hI HI hcf; obtain ⟨A2, c2, e2⟩ := Kd.R_slice HI12.out.rb; subst e2; have hcb : w12.cell? ⟨gb, 0, none⟩ = some (.slice A2 B2.length c2) := (blk_cell HI12.out.hb 0).trans rfl; have hcm : w12.cell? ⟨gm, 0, none⟩ = some (.int .i64 m2) := (blk_cell HI12.out.hm 0).trans rfl)
          refine wp_region_still_lit (by kernel_rfl) (by kernel_rfl) ?_
          repeat still_step
          refine wpStill_nil ?_
          change Exit.then _ _ _ _ (w12.drewN 1)
          go_wp2
          go_ret3
          exact ⟨_, rfl, Kd.R_drewN HI12.out.rb 1, pw_below_drewN HI12.out.b 1⟩
      · rw [if_neg hb] at H; cases H
  · rw [if_neg hz] at h
    have e := Option.some.inj h
    simp only [Prod.mk.injEq] at e
    obtain ⟨rfl, rfl, rfl⟩ := e
    clear h
    go_enter Try.func20, Try.ntmps20
    go_wp2_with (first | ((with_reducible refine gate_dst (N := 2) rfl ?_); refine box_event ?hg (N := 2) ?hd (cs := #[.slice A0 l0.length c0]) (t := 24) ?hr ?_; (case hd => rfl); (case hg => rfl); (case hr => first | (go_simp; done) | (go_simp; rfl)); intro gL hgL w1 hL1 hb1; have BL := Aside0.mk hL1; have B1 := Aside0.mk hb1; have GL := Aside0.mk hgL; clear hL1 hb1 hgL) | ((with_reducible refine gate_dst (N := 3) rfl ?_); refine box_event ?hg (N := 3) ?hd (cs := #[.int .i64 a1]) (t := 2) ?hr ?_; (case hd => rfl); (case hg => rfl); (case hr => first | (go_simp; done) | (go_simp; rfl)); intro gp hgp w2 hp2 hb2; have BP := Aside0.mk hp2; have n0_ := Aside0.mk (blk_below BL.out hb2); have B2 := Aside0.mk (below_then B1.out B1.out.size hb2); have LP := Aside0.mk (show gL < gp by rw [hgp]; exact blk_lt BL.out); clear BL B1 hp2 hb2 hgp; have BL := n0_; clear n0_))
    have hcL : w2.cell? ⟨gL, 0, none⟩ = some (.slice A0 l0.length c0) := (blk_cell BL.out 0).trans rfl
    have hcp : w2.cell? ⟨gp, 0, none⟩ = some (.int .i64 a1) := (blk_cell BP.out 0).trans rfl
    go_still_tail 3, (by kernel_rfl)
    still_call (impl_EvenPlies.within_still a1 1 6 t _ HT.out)
    refine wpStill_nil ?_
    change wpList _ _ _ _ _ (w2.drewN 1)
    have BL3 := Aside0.mk (blk_drewN BL.out 1)
    have BP3 := Aside0.mk (blk_drewN BP.out 1)
    have B3 := Aside0.mk (pw_below_drewN B2.out 1)
    clear BL BP B2 hcL hcp
    generalize w2.drewN 1 = w3 at *
    have hz1 : (c != 0) = true := bne_iff_ne.mpr hz
    go_wp2_with (go_at_call 36; refine (impl_yarnsCode.calls A0 c0 l0 t c _ (Kd.C_below HR.out B3.out) HC0.out HC.out).mono ?_; rintro e w4 ⟨rfl, hb4⟩; have BL4 := Aside0.mk (blk_below BL3.out hb4); have BP4 := Aside0.mk (blk_below BP3.out hb4); have B4 := Aside0.mk (below_then B3.out B3.out.size hb4); clear hb4 BL3 BP3 B3)
    go_ret3
    exact ⟨_, rfl, Kd.R_nil _ _ _ _ _, B4.out⟩

end Go.Proofs.Ythfanjdbemoaaaa.XFnPlies
