/- The functions that the law FnExactMatchSingles reaches: each as a Lean function, and that its call does what that function says; no conditions. -/
import Derived.Test.YtjhjabibkkhmjaaXFnExactMatchSinglesx0
import Derived.Test.YtjhjabibkkhmjaaXFnExactMatchSinglesx2
namespace Go.Proofs.Ytjhjabibkkhmjaa.XFnExactMatchSingles
open Go.RowKit Go.Proofs.YtjhjabibkkhmjaaW.PrintWords Go.Proofs.YtjhjabibkkhmjaaW.PrintLast Go.Proofs.YtjhjabibkkhmjaaW.PrintMore
attribute [local go_sem] max2_int min2_int max_two min_two max_three min_three max_four min_four   -- for this text's walks alone
set_option linter.unusedVariables false
set_option linter.unusedSimpArgs false

/-! ### spec_MatchSingles: function 33 -/
/-- The rests of a yarn with those behind it. -/
def spec_MatchSingles.inner (k : Nat) (l : List S88) (a : Nat) : Nat → Nat → List Int → Option (List Int)
  | 0, _, R => some R
  | g + 1, b, R => (spec_l03Balance.f k [rd_T88 l (a : Int), rd_T88 l (b : Int)]).bind fun r => spec_MatchSingles.inner k l a g (b + 1) (R.set (a * 10 + b) r.2)
def spec_MatchSingles.outer (k : Nat) (l : List S88) : Nat → Nat → List Int → Option (List Int)
  | 0, _, R => some R
  | g + 1, a, R => (spec_MatchSingles.inner k l a (l.length - (a + 1)) (a + 1) R).bind fun R2 => spec_MatchSingles.outer k l g (a + 1) R2
def spec_MatchSingles.f (k : Nat) (l0 : List S88) : Option (List S92 × Int × Int) :=
  (spec_l03Asked.f k l0 true).bind fun c =>
    if (if c = 0 ∧ l0.length % 2 = 1 then (4 : Int) else c) = 0 then
      (if l0.length ≤ 10 then (spec_MatchSingles.outer k l0 l0.length 0 (List.replicate 100 0)).bind fun R => (spec_l03Match_from.f R (l0.length : Int) k [] 0 0 [] 0 false).bind fun r => some (r.1, r.2.1, 0)
      else none)
    else some ([], 0, if c = 0 ∧ l0.length % 2 = 1 then (4 : Int) else c)
theorem spec_MatchSingles.mono_i (k : Nat) (l : List S88) (a : Nat) : ∀ g b R, LeO (spec_MatchSingles.inner k l a g b R) (spec_MatchSingles.inner (k + 1) l a g b R)
  | 0, _, _ => LeO.refl _
  | g + 1, b, R => LeO.bind (spec_l03Balance.mono _ _) (fun _ => spec_MatchSingles.mono_i k l a g _ _)
theorem spec_MatchSingles.mono_o (k : Nat) (l : List S88) : ∀ g a R, LeO (spec_MatchSingles.outer k l g a R) (spec_MatchSingles.outer (k + 1) l g a R)
  | 0, _, _ => LeO.refl _
  | g + 1, a, R => LeO.bind (spec_MatchSingles.mono_i k l a _ _ _) (fun _ => spec_MatchSingles.mono_o k l g _ _)
theorem spec_MatchSingles.mono : ∀ a0 k, LeO (spec_MatchSingles.f k a0) (spec_MatchSingles.f (k + 1) a0) := by
  intro a0 k
  unfold spec_MatchSingles.f
  repeat' first
    | exact spec_l03Asked.mono _ _ _
    | exact spec_MatchSingles.mono_o _ _ _ _ _
    | exact (spec_l03Match_from.mono_l _ _ _).1 _ _ _ _ _ _
    | (with_reducible exact LeO.refl _)
    | (with_reducible refine LeO.ite ?_ ?_)
    | (with_reducible refine LeO.bind ?_ (fun _ => ?_))
/-- A literal row of two yarns. -/
theorem spec_MatchSingles.lit2 {W : World} {h : Nat} (y z : S88) (hh : W.heap[h]? = some (.cells #[.int .i16 y.f0, .int .i16 y.f1, .int .i16 y.f2, .int .i16 z.f0, .int .i16 z.f1, .int .i16 z.f2] 88 (0, 0))) : Kd.C k88 W (some ⟨h, 0, none⟩) 2 [y, z] := by
  refine ⟨rfl, by omega, fun _ => ⟨_, rfl, fun j p hj => ?_⟩⟩
  have e := fun i => blk_cell hh i
  match j, hj with
  | 0, hj =>
    obtain rfl : y = p := by simpa using hj
    refine ⟨_, rfl, k88_mk W y, fun i u hi => ?_⟩
    match i, hi with
    | 0, hi => simp at hi; subst hi; simpa [Addr.add] using e 0
    | 1, hi => simp at hi; subst hi; simpa [Addr.add] using e 1
    | 2, hi => simp at hi; subst hi; simpa [Addr.add] using e 2
    | n + 3, hi => simp at hi
  | 1, hj =>
    obtain rfl : z = p := by simpa using hj
    refine ⟨_, rfl, k88_mk W z, fun i u hi => ?_⟩
    match i, hi with
    | 0, hi => simp at hi; subst hi; simpa [Addr.add, k88, Kd.iso, Kd.pair, Kd.int, Kd.scalar] using e 3
    | 1, hi => simp at hi; subst hi; simpa [Addr.add, k88, Kd.iso, Kd.pair, Kd.int, Kd.scalar] using e 4
    | 2, hi => simp at hi; subst hi; simpa [Addr.add, k88, Kd.iso, Kd.pair, Kd.int, Kd.scalar] using e 5
    | n + 3, hi => simp at hi
  | n + 2, hj => simp at hj
theorem spec_MatchSingles.keepA {w : World} {o : Obj} {a : Addr} {v : Value} (h : w.cell? a = some v) : (w.alloc o).cell? a = some v :=
  (((Below.refl w.heap.size w).alloc (Nat.le_refl _) o).cell (World.block_lt_of_cell? w a h)).trans h
theorem spec_MatchSingles.keepD {w : World} {a : Addr} {v : Value} (h : w.cell? a = some v) : w.drew.cell? a = some v := h
theorem spec_MatchSingles.keepNN {w : World} {n : Nat} {a : Addr} {v : Value} (h : w.cell? a = some v) : (w.drewN n).cell? a = some v :=
  ((pw_below_drewN (Below.refl w.heap.size w) n).cell (World.block_lt_of_cell? w a h)).trans h
theorem spec_MatchSingles.top {w : World} {o : Obj} {g : Nat} (h : g = w.heap.size) : (w.alloc o).heap[g]? = some o := by
  subst h; exact blk_new w o
/-- A literal row of no pair. -/
theorem spec_MatchSingles.lit0 {W : World} {base h : Nat} (hh : W.heap[h]? = some (.cells #[] 92 (0, 0))) (hb : base ≤ h) : Kd.R k92 92 W base (fun _ => True) (.slice (some ⟨h, 0, none⟩) 0 0) [] :=
  ⟨fun _ _ => trivial, [], ⟨rfl, .inr ⟨h, 0, #[], rfl, hb, hh, Nat.le_refl _, Nat.zero_le _, rfl, rfl⟩⟩, Reps.none _ _⟩
theorem spec_MatchSingles.put_r {R : List Int} {n : Int} {vB : Value} {m : Int} {fd : Bool} (hl : R.length = 100) (i : Nat) (hi : i < 100) (v : Int) : (spec_l03Match_from.cs R n vB m fd).setIfInBounds i (.int .i64 v) = spec_l03Match_from.cs (R.set i v) n vB m fd := by
  unfold spec_l03Match_from.cs
  rw [List.setIfInBounds_toArray, List.set_append_left _ _ (by simp; omega), List.map_set]
theorem spec_MatchSingles.put {w W : World} {gw : Nat} {R : List Int} {n m : Int} {fd : Bool} (h : spec_l03Match_from.Inv w W gw R n [] m fd (.slice none 0 0)) (i : Nat) (hi : i < 100) (v : Int) : spec_l03Match_from.Inv w (W.setCell ⟨gw, i, none⟩ (.int .i64 v)) gw (R.set i v) n [] m fd (.slice none 0 0) :=
  ⟨below_set h.b h.g, h.g, by rw [List.length_set]; exact h.rl, blk_put h.h i _ (spec_MatchSingles.put_r h.rl i hi v), Kd.R_nil _ _ _ _ _⟩
set_option maxHeartbeats 8000000 in
set_option maxRecDepth 100000 in
theorem spec_MatchSingles.calls (k : Nat) (A0 : Option Addr) (c0 : Nat) (l0 : List S88) (r1 : List S92) (r2 r3 : Int) (w : World) (hr0 : Kd.C k88 w A0 l0.length l0) (hc0 : l0.length ≤ c0) (h : spec_MatchSingles.f k l0 = some (r1, r2, r3)) :
    Calls Try.prog 33 #[.slice A0 l0.length c0] w fun e w' => ∃ v0_ : Value, e = .returned (.tuple #[v0_, .int .i64 r2, .int .i64 r3]) ∧ Kd.R k92 92 w' w.heap.size (fun _ => True) v0_ r1 ∧ Below w.heap.size w w' := by
  unfold spec_MatchSingles.f at h
  obtain ⟨c, hc, h⟩ := Option.bind_eq_some_iff.mp h
  have HC := Aside0.mk hc
  have HR := Aside0.mk hr0
  have HC0 := Aside0.mk hc0
  have hu1 := Try.underlying130
  clear hc hr0 hc0
  by_cases hz : c = 0
  · subst hz
    by_cases hodd : l0.length % 2 = 1
    · rw [if_pos (show (0 : Int) = 0 ∧ l0.length % 2 = 1 from ⟨rfl, hodd⟩), if_neg (by decide)] at h
      have e := Option.some.inj h
      simp only [Prod.mk.injEq] at e
      obtain ⟨rfl, rfl, rfl⟩ := e
      have ho0 : (l0.length : Int).tmod 2 = 1 := by rw [Int.tmod_eq_emod_of_nonneg (by omega)]; omega
      have ho1 : ((l0.length : Int).tmod 2 == 1) = true := beq_iff_eq.mpr ho0
      clear h
      go_enter Try.func33, Try.ntmps33
      go_wp2_with (first | (go_at_call 84; refine (spec_l03Asked.calls k A0 c0 l0 true 0 _ HR.out HC0.out HC.out).mono ?_; rintro e w4 ⟨rfl, hb4⟩; have B4 := Aside0.mk hb4; clear hb4))
      go_ret3
      exact ⟨_, rfl, spec_MatchSingles.lit0 (spec_MatchSingles.top rfl) B4.out.size, below_alloc B4.out _⟩
    · have hno : ¬ ((0 : Int) = 0 ∧ l0.length % 2 = 1) := fun z => hodd z.2
      rw [if_neg hno, if_pos rfl] at h
      have ho0 : (l0.length : Int).tmod 2 = 0 := by rw [Int.tmod_eq_emod_of_nonneg (by omega)]; omega
      have ho1 : ((l0.length : Int).tmod 2 == 1) = false := beq_eq_false_iff_ne.mpr (by omega)
      by_cases hn : l0.length ≤ 10
      · rw [if_pos hn] at h
        obtain ⟨R, hR, h⟩ := Option.bind_eq_some_iff.mp h
        obtain ⟨⟨B2, m2, fd2⟩, hm, h⟩ := Option.bind_eq_some_iff.mp h
        have e := Option.some.inj h
        simp only [Prod.mk.injEq] at e
        obtain ⟨rfl, rfl, rfl⟩ := e
        clear h
        have HRs := Aside0.mk hR
        have HM := Aside0.mk hm
        clear hR hm
        go_enter Try.func33, Try.ntmps33
        go_upto_region 6 with (first | (go_at_call 84; refine (spec_l03Asked.calls k A0 c0 l0 true 0 _ HR.out HC0.out HC.out).mono ?_; rintro e w4 ⟨rfl, hb4⟩; have B4 := Aside0.mk hb4; clear hb4))
        go_wp2_with (first | ((with_reducible refine gate_dst (N := 28) rfl ?_); refine box_event ?hg (N := 28) ?hd (cs := spec_l03Match_from.cs (List.replicate 100 0) (l0.length : Int) (.slice none 0 0) 0 false) (t := 130) ?hr ?_; (case hd => rfl); (case hg => rfl); (case hr => first | (go_simp; done) | (go_simp; rfl) | kernel_rfl); intro gw hgw w5 hw5 hbb; have HI5 : Aside0 (spec_l03Match_from.Inv w w5 gw (List.replicate 100 0) (l0.length : Int) [] 0 false (.slice none 0 0)) := ⟨below_then B4.out B4.out.size hbb, by rw [hgw]; exact B4.out.size, by simp, hw5, Kd.R_nil _ _ _ _ _⟩; clear hw5 hbb hgw B4))
        generalize (Value.agg (Try.zeroCells130.setIfInBounds 100 (.int .i64 (l0.length : Int)))) = vz
        go_loopg [7, 8, 9, 10] (l0.length + 1) (fun gq v7 _ _ _ W2 => ∃ (a : Nat) (R1 : List Int), v7 = .int .i64 (a : Int) ∧ Aside0 (l0.length + 1 ≤ gq + a ∧ a ≤ l0.length) ∧ Aside0 (spec_MatchSingles.outer k l0 (l0.length - a) a R1 = some R) ∧ Aside0 (spec_l03Match_from.Inv w W2 gw R1 (l0.length : Int) [] 0 false (.slice none 0 0)))
        case atStart => exact ⟨0, _, rfl, ⟨Nat.le_refl _, Nat.zero_le _⟩, HRs, HI5⟩
        case round =>
          clear HRs HI5
          obtain ⟨a, R1, rfl, HK, HO, HI⟩ := hrel
          by_cases hx : a < l0.length
          · have q2 : decide ((a : Int) < (l0.length : Int)) = true := decide_eq_true (by omega)
            have ga : l0.length - a = (l0.length - (a + 1)) + 1 := by omega
            have hO := HO.out
            rw [ga, spec_MatchSingles.outer] at hO
            obtain ⟨R2, hi2, hO⟩ := Option.bind_eq_some_iff.mp hO
            have HI2 := Aside0.mk hi2
            have HO2 := Aside0.mk hO
            have gx : a < 10 := by omega
            obtain ⟨go, rfl⟩ : ∃ g, gk = g + 1 := ⟨gk - 1, by have := HK.out; omega⟩
            clear hO hi2 HO ga
            go_wp2
            go_loopg [8, 9, 10] (l0.length + 1) (fun hq v8 _ _ W3 => ∃ (b : Nat) (R3 : List Int), v8 = .int .i64 (b : Int) ∧ Aside0 (l0.length + 1 ≤ hq + b ∧ b ≤ l0.length) ∧ Aside0 (spec_MatchSingles.inner k l0 a (l0.length - b) b R3 = some R2) ∧ Aside0 (spec_l03Match_from.Inv w W3 gw R3 (l0.length : Int) [] 0 false (.slice none 0 0)))
            case atStart => exact ⟨a + 1, R1, rfl, ⟨by omega, by omega⟩, HI2, HI⟩
            case round =>
              clear HI2 HI
              obtain ⟨b, R3, rfl, HK2, HI2, HI⟩ := hrel
              by_cases hy : b < l0.length
              · have q3 : decide ((b : Int) < (l0.length : Int)) = true := decide_eq_true (by omega)
                have gb : l0.length - b = (l0.length - (b + 1)) + 1 := by omega
                have hI2 := HI2.out
                rw [gb, spec_MatchSingles.inner] at hI2
                obtain ⟨⟨x1, x2⟩, hbal, hI2⟩ := Option.bind_eq_some_iff.mp hI2
                simp only at hI2
                have HBal := Aside0.mk hbal
                have HI3 := Aside0.mk hI2
                have gy : b < 10 := by omega
                clear hI2 hbal HI2 gb
                have hlC := Kd.C_below HR.out HI.out.b
                obtain ⟨ad1, e1, ha0, ha1, ha2⟩ := at_T88 hlC (a : Int) (by omega) (by omega)
                obtain ⟨ad2, e2, hb0, hb1, hb2⟩ := at_T88 hlC (b : Int) (by omega) (by omega)
                subst e1
                obtain rfl : ad1 = ad2 := by injection e2
                clear e2 hlC
                rw [Int.toNat_natCast] at ha0 ha1 ha2 hb0 hb1 hb2
                generalize rd_T88 l0 (a : Int) = ya at *
                generalize rd_T88 l0 (b : Int) = yb at *
                have qa0 : (0 : Int) ≤ (a : Int) := by omega
                have qb0 : (0 : Int) ≤ (b : Int) := by omega
                have qa1 : (a : Int) < (l0.length : Int) := by omega
                have qb1 : (b : Int) < (l0.length : Int) := by omega
                go_upto_region 13 with (fail)
                have gy1 : (b : Int) < 10 := by omega
                have gx1 : (a : Int) < 10 := by omega
                go_cut [7, 8, 9, 10] (fun v7 v8 _ v10 W7 => v7 = .int .i64 (a : Int) ∧ v8 = .int .i64 (b : Int) ∧ v10 = .int .i64 x2 ∧ Aside0 (Below wr.heap.size wr W7))
                case first  =>
                  go_region_held3 (fun w' => w'.cell? (ad1.add (a * 3)) = some (.int .i16 ya.f0) ∧ w'.cell? ⟨(ad1.add (a * 3)).block, (ad1.add (a * 3)).off + 1, none⟩ = some (.int .i16 ya.f1) ∧ w'.cell? ⟨(ad1.add (a * 3)).block, (ad1.add (a * 3)).off + 2, none⟩ = some (.int .i16 ya.f2) ∧ w'.cell? (ad1.add (b * 3)) = some (.int .i16 yb.f0) ∧ w'.cell? ⟨(ad1.add (b * 3)).block, (ad1.add (b * 3)).off + 1, none⟩ = some (.int .i16 yb.f1) ∧ w'.cell? ⟨(ad1.add (b * 3)).block, (ad1.add (b * 3)).off + 2, none⟩ = some (.int .i16 yb.f2)) ((repeat' (with_reducible refine And.intro ?_ ?_)) <;> ((repeat (first | (with_reducible refine spec_MatchSingles.keepD ?_) | (with_reducible refine spec_MatchSingles.keepA ?_) | (with_reducible refine spec_MatchSingles.keepNN ?_))); (first | (with_reducible exact ha0) | (with_reducible exact ha1) | (with_reducible exact ha2) | (with_reducible exact hb0) | (with_reducible exact hb1) | (with_reducible exact hb2) | (with_reducible exact ga0) | (with_reducible exact ga1) | (with_reducible exact ga2) | (with_reducible exact gb0) | (with_reducible exact gb1) | (with_reducible exact gb2)))) (first | (go_at_call 100; refine (spec_l03Balance.calls k (some ⟨wr.heap.size, 0, none⟩) 2 [ya, yb] x1 x2 _ (spec_MatchSingles.lit2 ya yb (by (repeat (first | exact spec_MatchSingles.top rfl | (with_reducible refine blk_drew ?_))))) (Nat.le_refl _) HBal.out).mono ?_; rintro e w7 ⟨rfl, hd⟩; have HB7 := Aside0.mk (show Below wr.heap.size wr w7 from by (obtain ⟨nd, hnd⟩ := hd.out; subst hnd; (repeat (first | exact Below.refl _ _ | (with_reducible refine below_drew1 ?_) | (with_reducible refine below_alloc ?_ _) | (with_reducible refine pw_below_drewN ?_ _))))); clear hd; have ga0 := (HB7.out.cell (World.block_lt_of_cell? wr _ ha0)).trans ha0; have ga1 := (HB7.out.cell (World.block_lt_of_cell? wr _ ha1)).trans ha1; have ga2 := (HB7.out.cell (World.block_lt_of_cell? wr _ ha2)).trans ha2; have gb0 := (HB7.out.cell (World.block_lt_of_cell? wr _ hb0)).trans hb0; have gb1 := (HB7.out.cell (World.block_lt_of_cell? wr _ hb1)).trans hb1; have gb2 := (HB7.out.cell (World.block_lt_of_cell? wr _ hb2)).trans hb2))
                  all_goals
                    (try go_wp2)
                    go_meet
                    case rel => exact ⟨rfl, rfl, rfl, HB7⟩
                case rest  =>
                obtain ⟨rfl, rfl, rfl, HB7⟩ := hcut
                have HI8 := Aside0.mk (HI.out.next HB7.out)
                clear HB7 HI ha0 ha1 ha2 hb0 hb1 hb2
                have hcr : wc.cell? ⟨gw, a * 10 + b, none⟩ = some (.int .i64 (R3.getD (a * 10 + b) 0)) := HI8.out.cr (a * 10 + b) (by omega)
                have hfr := blk_frozen HI8.out.h (a * 10 + b)
                go_wp2
                go_roundg (gk - 1)
                case measure => have := HK2.out; omega
                case rel => exact ⟨b + 1, R3.set (a * 10 + b) x2, rfl, ⟨by have := HK2.out; omega, by omega⟩, ⟨by have z := HI3.out; exact z⟩, ⟨spec_MatchSingles.put HI8.out (a * 10 + b) (by omega) x2⟩⟩
              · have q3 : decide ((b : Int) < (l0.length : Int)) = false := decide_eq_false (by omega)
                obtain rfl : b = l0.length := by have := HK2.out; omega
                have hI2 := HI2.out
                rw [Nat.sub_self, spec_MatchSingles.inner] at hI2
                obtain rfl := Option.some.inj hI2
                clear hI2 HI2 HK2
                go_wp2
                go_roundg go
                case measure => omega
                case rel => exact ⟨a + 1, R3, rfl, ⟨by have := HK.out; omega, by omega⟩, HO2, HI⟩
          · have q2 : decide ((a : Int) < (l0.length : Int)) = false := decide_eq_false (by omega)
            obtain rfl : a = l0.length := by have := HK.out; omega
            have hO := HO.out
            rw [Nat.sub_self, spec_MatchSingles.outer] at hO
            obtain rfl := Option.some.inj hO
            clear hO HO HK
            go_wp2_with (first | (go_at_call 101; refine (spec_l03Match_from.calls w gw R1 (l0.length : Int) k (some ⟨wr.heap.size, 0, none⟩) 0 [] 0 0 [] 0 false (.slice none 0 0) _ B2 m2 fd2 (HI.out.next (below_alloc (Below.refl _ _) _)) (Kd.R_reads' (spec_MatchSingles.lit0 (base := 0) (spec_MatchSingles.top rfl) (Nat.zero_le _))).2.2 (Nat.le_refl _) (fun ad e => by injection e with e; subst e; have := blk_lt HI.out.h; show wr.heap.size ≠ gw; omega) HM.out).mono ?_; rintro e w8 ⟨rfl, hk, vB2, hI⟩; have HI8 := Aside0.mk hI; clear hk hI; have hcb : w8.cell? ⟨gw, 101, none⟩ = some vB2 := HI8.out.cb; have hcm : w8.cell? ⟨gw, 102, none⟩ = some (.int .i64 m2) := HI8.out.cm))
            refine wp_region_still_lit (by kernel_rfl) (by kernel_rfl) ?_
            repeat still_step
            refine wpStill_nil ?_
            change Exit.then _ _ _ _ (w8.drewN 1)
            go_wp2
            go_ret3
            exact ⟨_, rfl, Kd.R_drewN HI8.out.rb 1, pw_below_drewN HI8.out.b 1⟩
      · rw [if_neg hn] at h; cases h
  · have hno : ¬ (c = 0 ∧ l0.length % 2 = 1) := fun z => hz z.1
    rw [if_neg hno, if_neg hz] at h
    have e := Option.some.inj h
    simp only [Prod.mk.injEq] at e
    obtain ⟨rfl, rfl, rfl⟩ := e
    have hz1 : (c == 0) = false := beq_eq_false_iff_ne.mpr hz
    have hz2 : (c != 0) = true := bne_iff_ne.mpr hz
    clear h
    go_enter Try.func33, Try.ntmps33
    go_wp2_with (first | (go_at_call 84; refine (spec_l03Asked.calls k A0 c0 l0 true c _ HR.out HC0.out HC.out).mono ?_; rintro e w4 ⟨rfl, hb4⟩; have B4 := Aside0.mk hb4; clear hb4))
    go_ret3
    exact ⟨_, rfl, spec_MatchSingles.lit0 (spec_MatchSingles.top rfl) B4.out.size, below_alloc B4.out _⟩


def idxO {α : Type} (q : α → Option Bool) : List α → Int → Option Int
  | [], _ => some (-1)
  | x :: l, i => (q x).bind fun b => if b = true then some i else idxO q l (i + 1)
def allO {α : Type} (q : α → Option Bool) : List α → Option Bool
  | [] => some true
  | x :: l => (q x).bind fun b => if b = true then allO q l else some false
/-- The first place at which q holds, or -1. -/
def idxG {α : Type} (l : List α) (q : α → Option Bool) : Option Int := if (l.length : Int) ≤ 4611686018427387904 then idxO q l 0 else none
/-- Does q hold of all? -/
def allG {α : Type} (l : List α) (q : α → Option Bool) : Option Bool := if (l.length : Int) ≤ 4611686018427387904 then allO q l else none
theorem idxO_mono {α : Type} {q q' : α → Option Bool} (h : ∀ x, LeO (q x) (q' x)) : ∀ (l : List α) (i : Int), LeO (idxO q l i) (idxO q' l i)
  | [], i => LeO.refl _
  | x :: l, i => by
    simp only [idxO]
    exact LeO.bind (h x) (fun b => LeO.ite (LeO.refl _) (idxO_mono h l (i + 1)))
theorem allO_mono {α : Type} {q q' : α → Option Bool} (h : ∀ x, LeO (q x) (q' x)) : ∀ (l : List α), LeO (allO q l) (allO q' l)
  | [] => LeO.refl _
  | x :: l => by
    simp only [allO]
    exact LeO.bind (h x) (fun b => LeO.ite (allO_mono h l) (LeO.refl _))
theorem idxG_mono {α : Type} (l : List α) {q q' : α → Option Bool} (h : ∀ x, LeO (q x) (q' x)) : LeO (idxG l q) (idxG l q') := LeO.ite (idxO_mono h l 0) (LeO.refl _)
theorem allG_mono {α : Type} (l : List α) {q q' : α → Option Bool} (h : ∀ x, LeO (q x) (q' x)) : LeO (allG l q) (allG l q') := LeO.ite (allO_mono h l) (LeO.refl _)
theorem idxO_all {α : Type} (q : α → Option Bool) : ∀ (l : List α) (i : Int) (r : Bool), 0 ≤ i → allO q l = some r → ∃ j, idxO (fun x => (q x).map (!·)) l i = some j ∧ (!decide (0 ≤ j)) = r
  | [], i, r, _, h => ⟨-1, rfl, by simp only [allO, Option.some.injEq] at h; subst h; decide⟩
  | x :: l, i, r, hi, h => by
    simp only [allO] at h
    obtain ⟨b, hb, h⟩ := Option.bind_eq_some_iff.mp h
    cases b with
    | true =>
      simp only [if_true] at h
      obtain ⟨j, h1, h2⟩ := idxO_all q l (i + 1) r (by omega) h
      exact ⟨j, by simp [idxO, hb, h1], h2⟩
    | false =>
      simp only [Bool.false_eq_true, if_false, Option.some.injEq] at h
      subst h
      exact ⟨i, by simp [idxO, hb], by simp [hi]⟩
theorem idxG_all {α : Type} (q : α → Option Bool) (l : List α) (r : Bool) (h : allG l q = some r) : ∃ j, idxG l (fun x => (q x).map (!·)) = some j ∧ (!decide (0 ≤ j)) = r := by
  unfold allG at h
  split at h
  · rename_i hl
    obtain ⟨j, h1, h2⟩ := idxO_all q l 0 r (by omega) h
    exact ⟨j, by unfold idxG; rw [if_pos hl]; exact h1, h2⟩
  · cases h

/-! ### impl_Yarn_207: function 207 -/
@[reducible] def impl_Yarn_207.f (l0 : List S88) (q : S88 → Option Bool) : Option Int := idxG l0 q
set_option maxHeartbeats 2000000 in
theorem impl_Yarn_207.calls (A0 : Option Addr) (c0 : Nat) (l0 : List S88) (q : S88 → Option Bool) (g : Nat) (lb : Array Value) (eg : ∀ args w, (callFunc g args).run Try.prog w = .ok (.enter g args) w) (r : Int) (w : World) (hr0 : Kd.C k88 w A0 l0.length l0) (hc0 : l0.length ≤ c0) (hp : ∀ (x : S88) (b : Bool) (W : World), Below w.heap.size w W → q x = some b → Calls Try.prog g (#[.agg #[.int .i16 x.f0, .int .i16 x.f1, .int .i16 x.f2]] ++ lb) W fun e w' => e = .returned (.bool b) ∧ Below W.heap.size W w') (h : impl_Yarn_207.f l0 q = some r) :
    Calls Try.prog 207 #[.slice A0 l0.length c0, .func (.func g) #[] lb] w fun e w' => e = .returned (.int .i64 r) ∧ Below w.heap.size w w' := by
  have h : idxG l0 q = some r := h
  unfold idxG at h
  split at h
  next hlen =>
    have HR0 := Aside0.mk hr0
    have HP := Aside0.mk hp
    have HH := Aside0.mk h
    clear hr0 hp h
    go_enter Try.func207, Try.ntmps207
    go_wp2
    go_loopg [5, 8] l0.length (fun gg _ v8 wr => ∃ kk : Nat, kk ≤ l0.length ∧ l0.length - kk ≤ gg ∧ v8 = .int .i64 kk ∧ Aside0 (Below w.heap.size w wr) ∧ Aside0 (idxO q (l0.drop kk) kk = some r))
    case atStart => exact ⟨0, Nat.zero_le _, by omega, rfl, ⟨Below.refl _ w⟩, ⟨by simpa using HH.out⟩⟩
    case round =>
      clear HH
      obtain ⟨kk, hkk, hg, rfl, BW, HA⟩ := hrel
      by_cases hlt : kk < l0.length
      · have hltz : (kk : Int) < (l0.length : Int) := by omega
        obtain ⟨ad, e, hx0, hx1, hx2⟩ := at_T88 HR0.out (kk : Int) (by omega) (by omega)
        cases e
        simp only [Int.toNat_natCast] at hx0 hx1 hx2
        replace hx0 := (BW.out.cell (World.block_lt_of_cell? w _ hx0)).trans hx0
        replace hx1 := (BW.out.cell (World.block_lt_of_cell? w _ hx1)).trans hx1
        replace hx2 := (BW.out.cell (World.block_lt_of_cell? w _ hx2)).trans hx2
        have hrd : rd_T88 l0 (kk : Int) = l0[kk] := by unfold rd_T88; simp [List.getD, hlt]
        have hA := HA.out
        rw [List.drop_eq_getElem_cons hlt] at hA
        simp only [idxO] at hA
        obtain ⟨b, hb, hA⟩ := Option.bind_eq_some_iff.mp hA
        rw [← hrd] at hb
        have hcall := HP.out (rd_T88 l0 (kk : Int)) b wr BW.out hb
        clear hrd hb
        generalize rd_T88 l0 (kk : Int) = y at hx0 hx1 hx2 hcall
        have HA2 := Aside0.mk hA
        clear hA
        cases b with
        | true =>
          go_wp2_with (go_at_fn g; refine hcall.mono ?_; rintro e w' ⟨rfl, hb'⟩)
          go_ret
          have hr : (kk : Int) = r := by have := HA2.out; simpa using this
          exact ⟨by subst hr; rfl, BW.out.trans (hb'.mono BW.out.size)⟩
        | false =>
          go_wp2_with (go_at_fn g; refine hcall.mono ?_; rintro e w' ⟨rfl, hb'⟩)
          go_roundg (l0.length - (kk + 1))
          case measure => omega
          case rel => exact ⟨kk + 1, by omega, by omega, by go_num, ⟨BW.out.trans (hb'.mono BW.out.size)⟩, ⟨by have := HA2.out; simpa using this⟩⟩
      · have hltz : ¬ (kk : Int) < (l0.length : Int) := by omega
        have : kk = l0.length := by omega
        subst this
        have hr : (-1 : Int) = r := by have := HA.out; simpa [idxO] using this
        go_wp2
        go_ret
        exact ⟨by subst hr; rfl, BW.out⟩
  next => cases h
theorem impl_Yarn_207.eg : ∀ args w, (callFunc 207 args).run Try.prog w = .ok (.enter 207 args) w := enters_of Try.func207 (by kernel_rfl) rfl

/-! ### impl_Yarn_186: function 186 -/
@[reducible] def impl_Yarn_186.f (l0 : List S88) (q : S88 → Option Bool) : Option Bool := (idxG l0 q).bind fun j => some (decide (0 ≤ j))
set_option maxHeartbeats 1000000 in
theorem impl_Yarn_186.calls (A0 : Option Addr) (c0 : Nat) (l0 : List S88) (q : S88 → Option Bool) (g : Nat) (lb : Array Value) (eg : ∀ args w, (callFunc g args).run Try.prog w = .ok (.enter g args) w) (r : Bool) (w : World) (hr0 : Kd.C k88 w A0 l0.length l0) (hc0 : l0.length ≤ c0) (hp : ∀ (x : S88) (b : Bool) (W : World), Below w.heap.size w W → q x = some b → Calls Try.prog g (#[.agg #[.int .i16 x.f0, .int .i16 x.f1, .int .i16 x.f2]] ++ lb) W fun e w' => e = .returned (.bool b) ∧ Below W.heap.size W w') (h : impl_Yarn_186.f l0 q = some r) :
    Calls Try.prog 186 #[.slice A0 l0.length c0, .func (.func g) #[] lb] w fun e w' => e = .returned (.bool r) ∧ Below w.heap.size w w' := by
  obtain ⟨j, hj, hr⟩ := Option.bind_eq_some_iff.mp h
  have hc := impl_Yarn_207.calls A0 c0 l0 q g lb eg j w hr0 hc0 hp hj
  have HR := Aside0.mk (Option.some.inj hr)
  clear hr0 hp h hj hr
  go_enter Try.func186, Try.ntmps186
  go_wp2_with (go_at_call 207; refine hc.mono ?_; rintro e w' ⟨rfl, hb'⟩)
  go_ret
  exact ⟨by rw [← HR.out]; rfl, hb'⟩

/-! ### impl_Yarn_1: function 187 -/
theorem impl_Yarn_1.eg : ∀ args w, (callFunc 187 args).run Try.prog w = .ok (.enter 187 args) w := enters_of Try.func187 (by kernel_rfl) rfl
set_option maxHeartbeats 1000000 in
theorem impl_Yarn_1.calls (q : S88 → Option Bool) (g : Nat) (lb : Array Value) (eg : ∀ args w, (callFunc g args).run Try.prog w = .ok (.enter g args) w) (B : Nat) (w : World) (hB : B < w.heap.size) (hcell : w.cell? ⟨B, 0, none⟩ = some (.func (.func g) #[] lb))
    (hp : ∀ (x : S88) (b : Bool) (W : World), Below w.heap.size w W → q x = some b → Calls Try.prog g (#[.agg #[.int .i16 x.f0, .int .i16 x.f1, .int .i16 x.f2]] ++ lb) W fun e w' => e = .returned (.bool b) ∧ Below W.heap.size W w') (x : S88) (b : Bool) (W : World) (hb : Below w.heap.size w W) (hq : (q x).map (!·) = some b) :
    Calls Try.prog 187 (#[.agg #[.int .i16 x.f0, .int .i16 x.f1, .int .i16 x.f2]] ++ #[.pointer (some ⟨B, 0, none⟩)]) W fun e w' => e = .returned (.bool b) ∧ Below W.heap.size W w' := by
  obtain ⟨b', hq', hbb⟩ := Option.map_eq_some_iff.mp hq
  have hc : W.cell? ⟨B, 0, none⟩ = some (.func (.func g) #[] lb) := (hb.cell (p := ⟨B, 0, none⟩) hB).trans hcell
  have hBW : B < W.heap.size := Nat.lt_of_lt_of_le hB hb.size
  have hne : B ≠ W.heap.size := by omega
  have hcall := hp x b' (W.alloc (.cells #[.int .i16 x.f0, .int .i16 x.f1, .int .i16 x.f2] 88)) (hb.alloc hb.size _) hq'
  have hb1 : Below W.heap.size W (W.alloc (.cells #[.int .i16 x.f0, .int .i16 x.f1, .int .i16 x.f2] 88)) := (Below.refl _ W).alloc (Nat.le_refl _) _
  have HQ := Aside0.mk hbb
  clear hp hq hq' hbb
  show Calls Try.prog 187 #[.agg #[.int .i16 x.f0, .int .i16 x.f1, .int .i16 x.f2], .pointer (some ⟨B, 0, none⟩)] W _
  go_enter Try.func187, Try.ntmps187
  go_wp2_with (go_at_fn g; refine hcall.mono ?_; rintro e w' ⟨rfl, hb'⟩)
  go_ret
  exact ⟨by rw [← HQ.out]; rfl, hb1.trans (hb'.mono (by simp))⟩

/-! ### impl_Yarn_149: function 149 -/
@[reducible] def impl_Yarn_149.f (l0 : List S88) (q : S88 → Option Bool) : Option Bool := allG l0 q
set_option maxHeartbeats 1000000 in
theorem impl_Yarn_149.calls (A0 : Option Addr) (c0 : Nat) (l0 : List S88) (q : S88 → Option Bool) (g : Nat) (lb : Array Value) (eg : ∀ args w, (callFunc g args).run Try.prog w = .ok (.enter g args) w) (r : Bool) (w : World) (hr0 : Kd.C k88 w A0 l0.length l0) (hc0 : l0.length ≤ c0) (hp : ∀ (x : S88) (b : Bool) (W : World), Below w.heap.size w W → q x = some b → Calls Try.prog g (#[.agg #[.int .i16 x.f0, .int .i16 x.f1, .int .i16 x.f2]] ++ lb) W fun e w' => e = .returned (.bool b) ∧ Below W.heap.size W w') (h : impl_Yarn_149.f l0 q = some r) :
    Calls Try.prog 149 #[.slice A0 l0.length c0, .func (.func g) #[] lb] w fun e w' => e = .returned (.bool r) ∧ Below w.heap.size w w' := by
  obtain ⟨j, hj, hr⟩ := idxG_all q l0 r h
  have hb1 : Below w.heap.size w (w.alloc (.cells #[.func (.func g) #[] lb] 187)) := (Below.refl _ w).alloc (Nat.le_refl _) _
  have hc := impl_Yarn_186.calls A0 c0 l0 (fun x => (q x).map (!·)) 187 #[.pointer (some ⟨w.heap.size, 0, none⟩)] impl_Yarn_1.eg (decide (0 ≤ j)) (w.alloc (.cells #[.func (.func g) #[] lb] 187)) (Kd.C_alloc hr0 _) hc0
    (fun x b W hW hq => impl_Yarn_1.calls q g lb eg w.heap.size _ (by simp) (by simp) (fun x b W hW hq => hp x b W (hb1.trans (hW.mono (by simp))) hq) x b W hW hq) (by show (idxG l0 _).bind _ = _; rw [hj]; rfl)
  have HR := Aside0.mk hr
  clear hr0 hp h hj hr
  generalize decide (0 ≤ j) = jj at hc HR
  go_enter Try.func149, Try.ntmps149
  go_wp2_with (go_at_call 186; refine hc.mono ?_; rintro e w' ⟨rfl, hb'⟩)
  go_ret
  exact ⟨by rw [← HR.out]; rfl, hb1.trans (hb'.mono (by simp))⟩

/-! ### impl_within: function 89 -/
def impl_within.f (a0 : Int) (a1 : Int) (a2 : Int) : Option (Bool) := if a1 ≤ a0 then (some (decide (a0 ≤ a2))) else (some false)
set_option maxHeartbeats 8000000 in
set_option maxRecDepth 100000 in
theorem impl_within.calls (a0 : Int) (a1 : Int) (a2 : Int) (r : Bool) (w : World) (h : impl_within.f a0 a1 a2 = some r) :
    Calls Try.prog 89 #[.int .i64 a0, .int .i64 a1, .int .i64 a2] w fun e w' => e = .returned (.bool r) ∧ Drawn0 w w' := by
  have H : (if a1 ≤ a0 then (some (decide (a0 ≤ a2))) else (some false)) = some r := h
  clear h
  by_cases c4 : a1 ≤ a0
  · rw [if_pos c4] at H
    have c4b0 : decide (a1 ≤ a0) = true := decide_eq_true c4
    clear c4
    obtain rfl := Option.some.inj H
    go_enter Try.func89, Try.ntmps89
    go_wp2
    go_ret
    exact ⟨by first | rfl | (simp; done) | (simp [*]; done), by repeat (first | exact Drawn0.refl _ | apply Drawn0.step)⟩
  · rw [if_neg c4] at H
    have c4b0 : decide (a1 ≤ a0) = false := decide_eq_false c4
    clear c4
    obtain rfl := Option.some.inj H
    go_enter Try.func89, Try.ntmps89
    go_wp2
    go_ret
    exact ⟨by first | rfl | (simp; done) | (simp [*]; done), by repeat (first | exact Drawn0.refl _ | apply Drawn0.step)⟩

/-! ### impl_ValidYarn: function 150 -/
def impl_ValidYarn.f (a0_0 : Int) (a0_1 : Int) (a0_2 : Int) : Option (Bool) := (impl_within.f (wrap64 (a0_0)) 1 5000).bind fun t134 => (if t134 = true then ((impl_within.f (wrap64 (a0_1)) (-2000) 2000).bind fun t135 => (if t135 = true then ((impl_within.f (wrap64 (a0_2)) 1 2000).bind fun t136 => (some t136)) else (some false))) else (some false))
set_option maxHeartbeats 8000000 in
set_option maxRecDepth 100000 in
theorem impl_ValidYarn.calls (a0_0 : Int) (a0_1 : Int) (a0_2 : Int) (r : Bool) (w : World) (h : impl_ValidYarn.f a0_0 a0_1 a0_2 = some r) :
    Calls Try.prog 150 #[.agg #[.int .i16 a0_0, .int .i16 a0_1, .int .i16 a0_2]] w fun e w' => e = .returned (.bool r) ∧ Below w.heap.size w w' := by
  have hu88 := Try.underlying88
  have HB := Aside0.mk (Below.refl w.heap.size w)
  have H : ((impl_within.f (wrap64 (a0_0)) 1 5000).bind fun t134 => (if t134 = true then ((impl_within.f (wrap64 (a0_1)) (-2000) 2000).bind fun t135 => (if t135 = true then ((impl_within.f (wrap64 (a0_2)) 1 2000).bind fun t136 => (some t136)) else (some false))) else (some false))) = some r := h
  clear h
  replace H := Option.bind_eq_some_iff.mp H
  obtain ⟨t134, A20, H⟩ := H
  replace H : (if t134 = true then ((impl_within.f (wrap64 (a0_1)) (-2000) 2000).bind fun t135 => (if t135 = true then ((impl_within.f (wrap64 (a0_2)) 1 2000).bind fun t136 => (some t136)) else (some false))) else (some false)) = some r := H
  have A2 := Aside0.mk A20
  clear A20
  by_cases c3 : t134 = true
  · subst c3
    have H1 : ((impl_within.f (wrap64 (a0_1)) (-2000) 2000).bind fun t135 => (if t135 = true then ((impl_within.f (wrap64 (a0_2)) 1 2000).bind fun t136 => (some t136)) else (some false))) = some r := by rw [if_pos rfl] at H; exact H
    clear H
    have H := H1
    clear H1
    replace H := Option.bind_eq_some_iff.mp H
    obtain ⟨t135, A40, H⟩ := H
    replace H : (if t135 = true then ((impl_within.f (wrap64 (a0_2)) 1 2000).bind fun t136 => (some t136)) else (some false)) = some r := H
    have A4 := Aside0.mk A40
    clear A40
    by_cases c5 : t135 = true
    · subst c5
      have H1 : ((impl_within.f (wrap64 (a0_2)) 1 2000).bind fun t136 => (some t136)) = some r := by rw [if_pos rfl] at H; exact H
      clear H
      have H := H1
      clear H1
      replace H := Option.bind_eq_some_iff.mp H
      obtain ⟨t136, A60, H⟩ := H
      replace H : (some t136) = some r := H
      have A6 := Aside0.mk A60
      clear A60
      obtain rfl := Option.some.inj H
      go_enter Try.func150, Try.ntmps150
      go_wp2_with (first | ((with_reducible refine gate_dst (N := 1) rfl ?_); refine box_event ?hg (N := 1) ?hd (cs := #[.int .i16 a0_0, .int .i16 a0_1, .int .i16 a0_2]) (t := 88) ?hr ?_; (case hd => rfl); (case hg => rfl); (case hr => first | (go_simp; done) | (go_simp; rfl)); intro gb133 hg w7 hbox hb; have n0_ := Aside0.mk (below_step (by repeat (first | (with_reducible first | exact HB.out | apply below_alloc | apply pw_below_drewN | apply below_drew1) | exact HB.out)) hb); have n1_ := Aside0.mk (hbox); have n2_ := Aside0.mk ((by rw [hg]; exact (below_size (by repeat (first | (with_reducible first | exact HB.out | apply below_alloc | apply pw_below_drewN | apply below_drew1) | exact HB.out))) : w.heap.size ≤ gb133)); have n3_ := Aside0.mk ((by rw [hg]; exact (below_size (by repeat (first | (with_reducible first | exact HB.out | apply below_alloc | apply pw_below_drewN | apply below_drew1) | exact HB.out))) : w.heap.size ≤ gb133)); clear HB; have HB := n0_; have BK133 := n1_; have GW133 := n2_; have GE133 := n3_; clear n0_ n1_ n2_ n3_; clear hb hbox hg; have hcz8_0 : w7.cell? ⟨gb133, 0, none⟩ = some (.int .i16 a0_0) := (blk_cell BK133.out 0).trans rfl; have hcz8_1 : w7.cell? ⟨gb133, 1, none⟩ = some (.int .i16 a0_1) := (blk_cell BK133.out 1).trans rfl; have hcz8_2 : w7.cell? ⟨gb133, 2, none⟩ = some (.int .i16 a0_2) := (blk_cell BK133.out 2).trans rfl; have hfz8_0 := blk_frozen BK133.out 0; have hfz8_1 := blk_frozen BK133.out 1; have hfz8_2 := blk_frozen BK133.out 2) | ((with_reducible refine gate_callee (f := 89) rfl ?_); refine goesL_ (some 6) rfl rfl Try.func89 (by kernel_rfl) rfl #[.int .i64 (wrap64 (a0_0)), .int .i64 1, .int .i64 5000] rfl (by (try simp only [List.map_toArray, List.map_cons, List.map_nil]); first | done | rfl | (simp only [List.length_drop, List.length_take]; rfl)) ?_; (with_reducible refine (impl_within.calls (wrap64 (a0_0)) 1 5000 true _ A2.out).mono ?_); rintro e w' ⟨rfl, ⟨nd, rfl⟩⟩; refine ⟨_, rfl, ?_⟩) | (go_at_call 89; (with_reducible refine (impl_within.calls (wrap64 (a0_1)) (-2000) 2000 true _ A4.out).mono ?_); rintro e w' ⟨rfl, ⟨nd, rfl⟩⟩) | (go_at_call 89; (with_reducible refine (impl_within.calls (wrap64 (a0_2)) 1 2000 t136 _ A6.out).mono ?_); rintro e w' ⟨rfl, ⟨nd, rfl⟩⟩))
      go_ret
      exact ⟨by first | rfl | (simp [errW_none, errW_some] <;> rfl) | (simp [*, errW_none, errW_some] <;> rfl), by repeat (first | (with_reducible first | exact HB.out | apply below_alloc | apply pw_below_drewN | apply below_drew1 | refine below_set ?_ GE133.out) | exact HB.out)⟩
    · replace c5 := Bool.eq_false_iff.mpr c5
      subst c5
      have H1 : (some false) = some r := by rw [if_neg (show ¬ (false = true) by decide)] at H; exact H
      clear H
      have H := H1
      clear H1
      obtain rfl := Option.some.inj H
      go_enter Try.func150, Try.ntmps150
      go_wp2_with (first | ((with_reducible refine gate_dst (N := 1) rfl ?_); refine box_event ?hg (N := 1) ?hd (cs := #[.int .i16 a0_0, .int .i16 a0_1, .int .i16 a0_2]) (t := 88) ?hr ?_; (case hd => rfl); (case hg => rfl); (case hr => first | (go_simp; done) | (go_simp; rfl)); intro gb133 hg w9 hbox hb; have n0_ := Aside0.mk (below_step (by repeat (first | (with_reducible first | exact HB.out | apply below_alloc | apply pw_below_drewN | apply below_drew1) | exact HB.out)) hb); have n1_ := Aside0.mk (hbox); have n2_ := Aside0.mk ((by rw [hg]; exact (below_size (by repeat (first | (with_reducible first | exact HB.out | apply below_alloc | apply pw_below_drewN | apply below_drew1) | exact HB.out))) : w.heap.size ≤ gb133)); have n3_ := Aside0.mk ((by rw [hg]; exact (below_size (by repeat (first | (with_reducible first | exact HB.out | apply below_alloc | apply pw_below_drewN | apply below_drew1) | exact HB.out))) : w.heap.size ≤ gb133)); clear HB; have HB := n0_; have BK133 := n1_; have GW133 := n2_; have GE133 := n3_; clear n0_ n1_ n2_ n3_; clear hb hbox hg; have hcz10_0 : w9.cell? ⟨gb133, 0, none⟩ = some (.int .i16 a0_0) := (blk_cell BK133.out 0).trans rfl; have hcz10_1 : w9.cell? ⟨gb133, 1, none⟩ = some (.int .i16 a0_1) := (blk_cell BK133.out 1).trans rfl; have hcz10_2 : w9.cell? ⟨gb133, 2, none⟩ = some (.int .i16 a0_2) := (blk_cell BK133.out 2).trans rfl; have hfz10_0 := blk_frozen BK133.out 0; have hfz10_1 := blk_frozen BK133.out 1; have hfz10_2 := blk_frozen BK133.out 2) | ((with_reducible refine gate_callee (f := 89) rfl ?_); refine goesL_ (some 6) rfl rfl Try.func89 (by kernel_rfl) rfl #[.int .i64 (wrap64 (a0_0)), .int .i64 1, .int .i64 5000] rfl (by (try simp only [List.map_toArray, List.map_cons, List.map_nil]); first | done | rfl | (simp only [List.length_drop, List.length_take]; rfl)) ?_; (with_reducible refine (impl_within.calls (wrap64 (a0_0)) 1 5000 true _ A2.out).mono ?_); rintro e w' ⟨rfl, ⟨nd, rfl⟩⟩; refine ⟨_, rfl, ?_⟩) | (go_at_call 89; (with_reducible refine (impl_within.calls (wrap64 (a0_1)) (-2000) 2000 false _ A4.out).mono ?_); rintro e w' ⟨rfl, ⟨nd, rfl⟩⟩))
      go_ret
      exact ⟨by first | rfl | (simp [errW_none, errW_some] <;> rfl) | (simp [*, errW_none, errW_some] <;> rfl), by repeat (first | (with_reducible first | exact HB.out | apply below_alloc | apply pw_below_drewN | apply below_drew1 | refine below_set ?_ GE133.out) | exact HB.out)⟩
  · replace c3 := Bool.eq_false_iff.mpr c3
    subst c3
    have H1 : (some false) = some r := by rw [if_neg (show ¬ (false = true) by decide)] at H; exact H
    clear H
    have H := H1
    clear H1
    obtain rfl := Option.some.inj H
    go_enter Try.func150, Try.ntmps150
    go_wp2_with (first | ((with_reducible refine gate_dst (N := 1) rfl ?_); refine box_event ?hg (N := 1) ?hd (cs := #[.int .i16 a0_0, .int .i16 a0_1, .int .i16 a0_2]) (t := 88) ?hr ?_; (case hd => rfl); (case hg => rfl); (case hr => first | (go_simp; done) | (go_simp; rfl)); intro gb133 hg w11 hbox hb; have n0_ := Aside0.mk (below_step (by repeat (first | (with_reducible first | exact HB.out | apply below_alloc | apply pw_below_drewN | apply below_drew1) | exact HB.out)) hb); have n1_ := Aside0.mk (hbox); have n2_ := Aside0.mk ((by rw [hg]; exact (below_size (by repeat (first | (with_reducible first | exact HB.out | apply below_alloc | apply pw_below_drewN | apply below_drew1) | exact HB.out))) : w.heap.size ≤ gb133)); have n3_ := Aside0.mk ((by rw [hg]; exact (below_size (by repeat (first | (with_reducible first | exact HB.out | apply below_alloc | apply pw_below_drewN | apply below_drew1) | exact HB.out))) : w.heap.size ≤ gb133)); clear HB; have HB := n0_; have BK133 := n1_; have GW133 := n2_; have GE133 := n3_; clear n0_ n1_ n2_ n3_; clear hb hbox hg; have hcz12_0 : w11.cell? ⟨gb133, 0, none⟩ = some (.int .i16 a0_0) := (blk_cell BK133.out 0).trans rfl; have hcz12_1 : w11.cell? ⟨gb133, 1, none⟩ = some (.int .i16 a0_1) := (blk_cell BK133.out 1).trans rfl; have hcz12_2 : w11.cell? ⟨gb133, 2, none⟩ = some (.int .i16 a0_2) := (blk_cell BK133.out 2).trans rfl; have hfz12_0 := blk_frozen BK133.out 0; have hfz12_1 := blk_frozen BK133.out 1; have hfz12_2 := blk_frozen BK133.out 2) | ((with_reducible refine gate_callee (f := 89) rfl ?_); refine goesL_ (some 6) rfl rfl Try.func89 (by kernel_rfl) rfl #[.int .i64 (wrap64 (a0_0)), .int .i64 1, .int .i64 5000] rfl (by (try simp only [List.map_toArray, List.map_cons, List.map_nil]); first | done | rfl | (simp only [List.length_drop, List.length_take]; rfl)) ?_; (with_reducible refine (impl_within.calls (wrap64 (a0_0)) 1 5000 false _ A2.out).mono ?_); rintro e w' ⟨rfl, ⟨nd, rfl⟩⟩; refine ⟨_, rfl, ?_⟩))
    go_ret
    exact ⟨by first | rfl | (simp [errW_none, errW_some] <;> rfl) | (simp [*, errW_none, errW_some] <;> rfl), by repeat (first | (with_reducible first | exact HB.out | apply below_alloc | apply pw_below_drewN | apply below_drew1 | refine below_set ?_ GE133.out) | exact HB.out)⟩

/-! ### impl_yarnsCode: function 88 -/
/-- The first place, counted from i on, at which p holds, or -1. -/
def idxFrom {α : Type} (p : α → Bool) : List α → Int → Int
  | [], _ => -1
  | x :: l, i => if p x = true then i else idxFrom p l (i + 1)
theorem idxFrom_any {α : Type} (p : α → Bool) : ∀ (l : List α) (i : Int), 0 ≤ i → decide (0 ≤ idxFrom p l i) = l.any p
  | [], i, h => by simp [idxFrom]
  | x :: l, i, h => by
    cases hx : p x with
    | true => simp [idxFrom, hx, h]
    | false => simp [idxFrom, hx, idxFrom_any p l (i + 1) (by omega)]
set_option maxHeartbeats 2000000 in
theorem IFy (p : S88 → Bool) (g : Nat) (lb : Array Value) (eg : ∀ args w, (callFunc g args).run Try.prog w = .ok (.enter g args) w) (A0 : Option Addr) (c0 : Nat) (l0 : List S88) (w : World)
    (hr0 : Kd.C k88 w A0 l0.length l0) (hlen : (l0.length : Int) ≤ 4611686018427387904)
    (hp : ∀ (x : S88) (W : World), Below w.heap.size w W → Calls Try.prog g (#[.agg #[.int .i16 x.f0, .int .i16 x.f1, .int .i16 x.f2]] ++ lb) W fun e w' => e = .returned (.bool (p x)) ∧ Below W.heap.size W w') :
    Calls Try.prog 207 #[.slice A0 l0.length c0, .func (.func g) #[] lb] w fun e w' => e = .returned (.int .i64 (idxFrom p l0 0)) ∧ Below w.heap.size w w' := by
  have HR0 := Aside0.mk hr0
  have HP := Aside0.mk hp
  clear hr0 hp
  go_enter Try.func207, Try.ntmps207
  go_wp2
  go_loopg [5, 8] l0.length (fun gg _ v8 wr => ∃ kk : Nat, kk ≤ l0.length ∧ l0.length - kk ≤ gg ∧ v8 = .int .i64 kk ∧ Aside0 (Below w.heap.size w wr) ∧ Aside0 (idxFrom p l0 0 = idxFrom p (l0.drop kk) kk))
  case atStart => exact ⟨0, Nat.zero_le _, by omega, rfl, ⟨Below.refl _ w⟩, ⟨by simp⟩⟩
  case round =>
    obtain ⟨kk, hkk, hg, rfl, BW, A⟩ := hrel
    by_cases hlt : kk < l0.length
    · have hltz : (kk : Int) < (l0.length : Int) := by omega
      obtain ⟨ad, e, hx0, hx1, hx2⟩ := at_T88 HR0.out (kk : Int) (by omega) (by omega)
      cases e
      simp only [Int.toNat_natCast] at hx0 hx1 hx2
      replace hx0 := (BW.out.cell (World.block_lt_of_cell? w _ hx0)).trans hx0
      replace hx1 := (BW.out.cell (World.block_lt_of_cell? w _ hx1)).trans hx1
      replace hx2 := (BW.out.cell (World.block_lt_of_cell? w _ hx2)).trans hx2
      have hcall := HP.out (rd_T88 l0 (kk : Int)) wr BW.out
      have hrd : rd_T88 l0 (kk : Int) = l0[kk] := by unfold rd_T88; simp [List.getD, hlt]
      have hdr : l0.drop kk = l0[kk] :: l0.drop (kk + 1) := List.drop_eq_getElem_cons hlt
      generalize hy : rd_T88 l0 (kk : Int) = y at hx0 hx1 hx2 hcall hrd
      have E := Aside0.mk hrd
      have D := Aside0.mk hdr
      clear hrd hdr hy
      cases hq : p y with
      | true =>
        rw [hq] at hcall
        have Q := Aside0.mk hq
        clear hq
        go_wp2_with (go_at_fn g; refine hcall.mono ?_; rintro e w' ⟨rfl, hb'⟩)
        go_ret
        refine ⟨?_, BW.out.trans (hb'.mono BW.out.size)⟩
        rw [A.out, D.out, ← E.out]; simp [idxFrom, Q.out]
      | false =>
        rw [hq] at hcall
        have Q := Aside0.mk hq
        clear hq
        go_wp2_with (go_at_fn g; refine hcall.mono ?_; rintro e w' ⟨rfl, hb'⟩)
        go_roundg (l0.length - (kk + 1))
        case measure => omega
        case rel => exact ⟨kk + 1, by omega, by omega, by go_num, ⟨BW.out.trans (hb'.mono BW.out.size)⟩, ⟨by rw [A.out, D.out, ← E.out]; simp [idxFrom, Q.out]⟩⟩
    · have hltz : ¬ (kk : Int) < (l0.length : Int) := by omega
      have : kk = l0.length := by omega
      subst this
      go_wp2
      go_ret
      refine ⟨?_, BW.out⟩
      rw [A.out]; simp [idxFrom]
theorem egIFy : ∀ args w, (callFunc 207 args).run Try.prog w = .ok (.enter 207 args) w := enters_of Try.func207 (by kernel_rfl) rfl
theorem egACy : ∀ args w, (callFunc 187 args).run Try.prog w = .ok (.enter 187 args) w := enters_of Try.func187 (by kernel_rfl) rfl
set_option maxHeartbeats 1000000 in
theorem CFy (p : S88 → Bool) (g : Nat) (lb : Array Value) (eg : ∀ args w, (callFunc g args).run Try.prog w = .ok (.enter g args) w) (A0 : Option Addr) (c0 : Nat) (l0 : List S88) (w : World)
    (hr0 : Kd.C k88 w A0 l0.length l0) (hlen : (l0.length : Int) ≤ 4611686018427387904)
    (hp : ∀ (x : S88) (W : World), Below w.heap.size w W → Calls Try.prog g (#[.agg #[.int .i16 x.f0, .int .i16 x.f1, .int .i16 x.f2]] ++ lb) W fun e w' => e = .returned (.bool (p x)) ∧ Below W.heap.size W w') :
    Calls Try.prog 186 #[.slice A0 l0.length c0, .func (.func g) #[] lb] w fun e w' => e = .returned (.bool (l0.any p)) ∧ Below w.heap.size w w' := by
  have hc := IFy p g lb eg A0 c0 l0 w hr0 hlen hp
  have HA := Aside0.mk (idxFrom_any p l0 0 (by omega))
  clear hr0 hp
  generalize idxFrom p l0 0 = r at hc HA
  generalize l0.any p = s at HA
  go_enter Try.func186, Try.ntmps186
  go_wp2_with (go_at_call 207; refine hc.mono ?_; rintro e w' ⟨rfl, hb'⟩)
  go_ret
  exact ⟨by rw [← HA.out]; rfl, hb'⟩
set_option maxHeartbeats 1000000 in
theorem ACy (q : S88 → Bool) (g : Nat) (lb : Array Value) (eg : ∀ args w, (callFunc g args).run Try.prog w = .ok (.enter g args) w) (B : Nat) (w : World) (hB : B < w.heap.size) (hcell : w.cell? ⟨B, 0, none⟩ = some (.func (.func g) #[] lb))
    (hq : ∀ (x : S88) (W : World), Below w.heap.size w W → Calls Try.prog g (#[.agg #[.int .i16 x.f0, .int .i16 x.f1, .int .i16 x.f2]] ++ lb) W fun e w' => e = .returned (.bool (q x)) ∧ Below W.heap.size W w')
    (x : S88) (W : World) (hb : Below w.heap.size w W) :
    Calls Try.prog 187 (#[.agg #[.int .i16 x.f0, .int .i16 x.f1, .int .i16 x.f2]] ++ #[.pointer (some ⟨B, 0, none⟩)]) W fun e w' => e = .returned (.bool (!q x)) ∧ Below W.heap.size W w' := by
  have hc : W.cell? ⟨B, 0, none⟩ = some (.func (.func g) #[] lb) := (hb.cell (p := ⟨B, 0, none⟩) hB).trans hcell
  have hBW : B < W.heap.size := Nat.lt_of_lt_of_le hB hb.size
  have hne : B ≠ W.heap.size := by omega
  have hcall := hq x (W.alloc (.cells #[.int .i16 x.f0, .int .i16 x.f1, .int .i16 x.f2] 88)) (hb.alloc hb.size _)
  clear hq
  have hb1 : Below W.heap.size W (W.alloc (.cells #[.int .i16 x.f0, .int .i16 x.f1, .int .i16 x.f2] 88)) := (Below.refl _ W).alloc (Nat.le_refl _) _
  generalize q x = r at hcall
  show Calls Try.prog 187 #[.agg #[.int .i16 x.f0, .int .i16 x.f1, .int .i16 x.f2], .pointer (some ⟨B, 0, none⟩)] W _
  go_enter Try.func187, Try.ntmps187
  go_wp2_with (go_at_fn g; refine hcall.mono ?_; rintro e w' ⟨rfl, hb'⟩)
  go_ret
  exact ⟨rfl, hb1.trans (hb'.mono (by simp))⟩
set_option maxHeartbeats 1000000 in
theorem AAy (q : S88 → Bool) (g : Nat) (lb : Array Value) (eg : ∀ args w, (callFunc g args).run Try.prog w = .ok (.enter g args) w) (A0 : Option Addr) (c0 : Nat) (l0 : List S88) (w : World)
    (hr0 : Kd.C k88 w A0 l0.length l0) (hlen : (l0.length : Int) ≤ 4611686018427387904)
    (hq : ∀ (x : S88) (W : World), Below w.heap.size w W → Calls Try.prog g (#[.agg #[.int .i16 x.f0, .int .i16 x.f1, .int .i16 x.f2]] ++ lb) W fun e w' => e = .returned (.bool (q x)) ∧ Below W.heap.size W w') :
    Calls Try.prog 149 #[.slice A0 l0.length c0, .func (.func g) #[] lb] w fun e w' => e = .returned (.bool (l0.all q)) ∧ Below w.heap.size w w' := by
  have hb1 : Below w.heap.size w (w.alloc (.cells #[.func (.func g) #[] lb] 187)) := (Below.refl _ w).alloc (Nat.le_refl _) _
  have hc := CFy (fun x => !q x) 187 #[.pointer (some ⟨w.heap.size, 0, none⟩)] egACy A0 c0 l0 (w.alloc (.cells #[.func (.func g) #[] lb] 187)) (Kd.C_alloc hr0 _) hlen
    (fun x W hW => ACy q g lb eg w.heap.size _ (by simp) (by simp) (fun x W hW => hq x W (hb1.trans (hW.mono (by simp)))) x W hW)
  have HA := Aside0.mk (show (!l0.any fun x => !q x) = l0.all q by rw [List.all_eq_not_any_not])
  clear hr0 hq
  generalize l0.any (fun x => !q x) = r at hc HA
  go_enter Try.func149, Try.ntmps149
  go_wp2_with (go_at_call 186; refine hc.mono ?_; rintro e w' ⟨rfl, hb'⟩)
  go_ret
  exact ⟨by rw [← HA.out]; rfl, hb1.trans (hb'.mono (by simp))⟩
def vYarn (x : S88) : Bool := (impl_ValidYarn.f x.f0 x.f1 x.f2).getD false
theorem vYarn_f (x : S88) : impl_ValidYarn.f x.f0 x.f1 x.f2 = some (vYarn x) := by
  unfold vYarn impl_ValidYarn.f impl_within.f
  by_cases h1 : 1 ≤ wrap64 x.f0 <;> by_cases h2 : -2000 ≤ wrap64 x.f1 <;> by_cases h3 : 1 ≤ wrap64 x.f2 <;> simp [h1, h2, h3] <;> split <;> (try rfl) <;> split <;> rfl
theorem vYarn_calls (x : S88) (W : World) : Calls Try.prog 150 (#[.agg #[.int .i16 x.f0, .int .i16 x.f1, .int .i16 x.f2]] ++ #[]) W fun e w' => e = .returned (.bool (vYarn x)) ∧ Below W.heap.size W w' :=
  impl_ValidYarn.calls x.f0 x.f1 x.f2 (vYarn x) W (vYarn_f x)
theorem egVy : ∀ args w, (callFunc 150 args).run Try.prog w = .ok (.enter 150 args) w := enters_of Try.func150 (by kernel_rfl) rfl
def impl_yarnsCode.f (l0 : List S88) (a1 : Bool) : Option Int := if (l0.length : Int) ≤ 4611686018427387904 then (some (if l0.all vYarn = true then (if a1 = true then (if (l0.length : Int) > 10 then 3 else 0) else 2) else 1)) else none
set_option maxHeartbeats 1000000 in
theorem impl_yarnsCode.calls (A0 : Option Addr) (c0 : Nat) (l0 : List S88) (a1 : Bool) (r : Int) (w : World) (hr0 : Kd.C k88 w A0 l0.length l0) (hc0 : l0.length ≤ c0) (h : impl_yarnsCode.f l0 a1 = some r) :
    Calls Try.prog 88 #[.slice A0 l0.length c0, .bool a1] w fun e w' => e = .returned (.int .i64 r) ∧ Below w.heap.size w w' := by
  unfold impl_yarnsCode.f at h
  by_cases hlen : (l0.length : Int) ≤ 4611686018427387904
  · rw [if_pos hlen] at h
    have hq := fun (W : World) => AAy vYarn 150 #[] egVy A0 c0 l0 w hr0 hlen (fun x W _ => vYarn_calls x W)
    have hcall := hq w
    clear hq hr0
    have hr := Aside0.mk (Option.some.inj h)
    clear h
    generalize l0.all vYarn = b at hcall hr
    cases b with
    | false =>
      go_enter Try.func88, Try.ntmps88
      go_wp2_with (go_at_call 149; refine hcall.mono ?_; rintro e w' ⟨rfl, hb'⟩)
      go_ret
      exact ⟨by rw [← hr.out]; rfl, hb'⟩
    | true =>
      cases a1 with
      | false =>
        go_enter Try.func88, Try.ntmps88
        go_wp2_with (go_at_call 149; refine hcall.mono ?_; rintro e w' ⟨rfl, hb'⟩)
        go_ret
        exact ⟨by rw [← hr.out]; rfl, hb'⟩
      | true =>
        by_cases hl : (l0.length : Int) > 10
        · have hl2 : decide (10 < l0.length) = true := decide_eq_true (by omega)
          have hl1 : decide ((10 : Int) < (l0.length : Int)) = true := decide_eq_true (by omega)
          have hl' := Aside0.mk hl
          clear hl
          go_enter Try.func88, Try.ntmps88
          go_wp2_with (go_at_call 149; refine hcall.mono ?_; rintro e w' ⟨rfl, hb'⟩)
          go_ret
          exact ⟨by rw [← hr.out]; simp [hl'.out], hb'⟩
        · have hl2 : decide (10 < l0.length) = false := decide_eq_false (by omega)
          have hl1 : decide ((10 : Int) < (l0.length : Int)) = false := decide_eq_false (by omega)
          have hl' := Aside0.mk hl
          clear hl
          go_enter Try.func88, Try.ntmps88
          go_wp2_with (go_at_call 149; refine hcall.mono ?_; rintro e w' ⟨rfl, hb'⟩)
          go_ret
          exact ⟨by rw [← hr.out]; simp [hl'.out], hb'⟩
  · rw [if_neg hlen] at h
    cases h

/-! ### impl_size: function 105 -/
def impl_size.f (a0 : Int) : Option (Int) := some (mx a0 (wrap64 (-a0)))
set_option maxHeartbeats 8000000 in
set_option maxRecDepth 100000 in
theorem impl_size.calls (a0 : Int) (r : Int) (w : World) (h : impl_size.f a0 = some r) :
    Calls Try.prog 105 #[.int .i64 a0] w fun e w' => e = .returned (.int .i64 r) ∧ Below w.heap.size w w' := by
  have HB := Aside0.mk (Below.refl w.heap.size w)
  have H : (some (mx a0 (wrap64 (-a0)))) = some r := h
  clear h
  obtain ⟨ji2, hji2⟩ : ∃ j_ : Int, (mx a0 (wrap64 (-a0))) = j_ := ⟨_, rfl⟩
  replace H : (some ji2) = some r := by first | (rw [hji2] at H; exact H) | (simp only [hji2] at H ⊢; exact H)
  have hji2_ : (if a0 < (wrap64 (-a0)) then (wrap64 (-a0)) else a0) = ji2 := hji2
  obtain rfl := Option.some.inj H
  go_enter Try.func105, Try.ntmps105
  go_wp2
  go_ret
  exact ⟨by first | rfl | (simp [errW_none, errW_some] <;> rfl) | (simp only [← hji2]; first | rfl | (simp [errW_none, errW_some] <;> rfl)) | (simp [*, errW_none, errW_some] <;> rfl), by repeat (first | (with_reducible first | exact HB.out | apply below_alloc | apply pw_below_drewN | apply below_drew1) | exact HB.out)⟩

/-! ### impl_MatchSingles_1: function 104 -/
/-- What a pair leaves over. -/
def impl_MatchSingles_1.rest (l : List S88) (p : S92) : Option Int := if 0 ≤ p.f0 ∧ p.f0 < (l.length : Int) ∧ 0 ≤ p.f1 ∧ p.f1 < (l.length : Int) then impl_size.f (wrap64 (wrap64 (rd_T88 l p.f0).f1 - wrap64 (rd_T88 l p.f1).f1)) else none
def impl_MatchSingles_1.sum (l : List S88) : List S92 → Int → Option Int
  | [], s => some s
  | p :: ps, s => (impl_MatchSingles_1.rest l p).bind fun x => impl_MatchSingles_1.sum l ps (wrap64 (s + x))
/-- The best pairs and their sum, behind one more pairing. -/
def impl_MatchSingles_1.f (l : List S88) (ps B : List S92) (m : Int) : Option (List S92 × Int) := (impl_MatchSingles_1.sum l ps 0).bind fun s => some (if m < 0 ∨ s < m then (ps, s) else (B, m))
/-- All blocks but two are as they were. -/
def impl_MatchSingles_1.Fr (gm gb : Nat) (W W' : World) : Prop := W.heap.size ≤ W'.heap.size ∧ ∀ k, k < W.heap.size → k ≠ gm → k ≠ gb → W'.heap[k]? = W.heap[k]?
theorem impl_MatchSingles_1.Fr.of_below {gm gb : Nat} {W W' : World} (h : Below W.heap.size W W') : impl_MatchSingles_1.Fr gm gb W W' := ⟨below_size h, fun k hk _ _ => h.block k hk⟩
theorem impl_MatchSingles_1.Fr.trans {gm gb : Nat} {W W1 W2 : World} (h : impl_MatchSingles_1.Fr gm gb W W1) (h2 : impl_MatchSingles_1.Fr gm gb W1 W2) : impl_MatchSingles_1.Fr gm gb W W2 :=
  ⟨Nat.le_trans h.1 h2.1, fun k hk a b => (h2.2 k (Nat.lt_of_lt_of_le hk h.1) a b).trans (h.2 k hk a b)⟩
theorem impl_MatchSingles_1.Fr.row {α : Type} {d : Kd α} {e base gm gb : Nat} {W W' : World} {v : Value} {xs : List α} (hf : impl_MatchSingles_1.Fr gm gb W W') (h : Kd.R d e W base (fun k => k ≠ gm ∧ k ≠ gb) v xs) : Kd.R d e W' base (fun k => k ≠ gm ∧ k ≠ gb) v xs :=
  Kd.R_mono (Kd.R_move (Kd.R_bound h) (fun k hk => hf.2 k hk.2.2.1 hk.1.1 hk.1.2)) (fun k hk => hk.1)
/-- The closure's variables: the boxes gL (list), gm (least), gb (best). -/
structure impl_MatchSingles_1.Inv (w W : World) (A0 : Option Addr) (c0 : Nat) (l : List S88) (gL gm gb : Nat) (B : List S92) (m : Int) (vB : Value) : Prop where
  b : Below w.heap.size w W
  lo : w.heap.size ≤ gL ∧ w.heap.size ≤ gm ∧ w.heap.size ≤ gb
  nd : gL ≠ gm ∧ gL ≠ gb ∧ gm ≠ gb
  hL : W.heap[gL]? = some (.cells #[.slice A0 l.length c0] 37 (0, 0))
  hm : W.heap[gm]? = some (.cells #[.int .i64 m] 2 (0, 0))
  hb : W.heap[gb]? = some (.cells #[vB] 46 (0, 0))
  rb : Kd.R k92 92 W w.heap.size (fun k => k ≠ gm ∧ k ≠ gb) vB B
theorem impl_MatchSingles_1.Inv.next {w W W' : World} {A0 : Option Addr} {c0 : Nat} {l : List S88} {gL gm gb : Nat} {B : List S92} {m : Int} {vB : Value} (h : impl_MatchSingles_1.Inv w W A0 c0 l gL gm gb B m vB) (hb : Below W.heap.size W W') : impl_MatchSingles_1.Inv w W' A0 c0 l gL gm gb B m vB :=
  ⟨below_then h.b h.b.size hb, h.lo, h.nd, blk_below h.hL hb, blk_below h.hm hb, blk_below h.hb hb, Kd.R_below h.rb hb⟩
/-- New best pairs, and their sum. -/
theorem impl_MatchSingles_1.Inv.best {w W : World} {A0 : Option Addr} {c0 : Nat} {l : List S88} {gL gm gb : Nat} {B : List S92} {m : Int} {vB : Value} (h : impl_MatchSingles_1.Inv w W A0 c0 l gL gm gb B m vB) {v2 : Value} {B2 : List S92} (hr : Kd.R k92 92 W w.heap.size (fun k => k ≠ gm ∧ k ≠ gb) v2 B2) (m2 : Int) :
    impl_MatchSingles_1.Inv w ((W.setCell ⟨gb, 0, none⟩ v2).setCell ⟨gm, 0, none⟩ (.int .i64 m2)) A0 c0 l gL gm gb B2 m2 v2 ∧ impl_MatchSingles_1.Fr gm gb W ((W.setCell ⟨gb, 0, none⟩ v2).setCell ⟨gm, 0, none⟩ (.int .i64 m2)) := by
  obtain ⟨n1, n2, n3⟩ := h.nd
  have far : ∀ {e : Nat} {v : Value} {xs : List S92}, Kd.R k92 e W w.heap.size (fun k => k ≠ gm ∧ k ≠ gb) v xs → Kd.R k92 e ((W.setCell ⟨gb, 0, none⟩ v2).setCell ⟨gm, 0, none⟩ (.int .i64 m2)) w.heap.size (fun k => k ≠ gm ∧ k ≠ gb) v xs := fun hx => Kd.R_far (p := ⟨gm, 0, none⟩) (Kd.R_far (p := ⟨gb, 0, none⟩) hx (fun k hk => hk.2) _) (fun k hk => hk.1) _
  refine ⟨⟨below_set (below_set h.b h.lo.2.2) h.lo.2.1, h.lo, h.nd, blk_far (blk_far h.hL n2 _) n1 _, blk_put (cs := #[.int .i64 m]) (blk_far h.hm n3 _) 0 _ rfl, blk_far (blk_put (cs := #[vB]) h.hb 0 v2 rfl) n3.symm _, far hr⟩, by simp, fun k _ hm_ hb_ => (Below.heap_setCell _ _ _ k (show k ≠ gm from hm_)).trans (Below.heap_setCell _ _ _ k (show k ≠ gb from hb_))⟩
theorem impl_MatchSingles_1.wr64 (n : Int) : IntKind.i64.wrap n = wrap64 n := by
  have e1 : (2 : Int) ^ IntKind.i64.bits = 18446744073709551616 := by decide
  have e2 : (2 : Int) ^ (IntKind.i64.bits - 1) = 9223372036854775808 := by decide
  have e3 : IntKind.i64.signed = true := rfl
  unfold IntKind.wrap wrap64
  simp only [e1, e2, e3, Bool.true_and, decide_eq_true_eq]
  split <;> omega
set_option maxHeartbeats 2000000 in
/-- impl.size, as a function that only reads. -/
theorem impl_MatchSingles_1.size (a0 r : Int) (w : World) (h : impl_size.f a0 = some r) : Calls Try.prog 105 #[.int .i64 a0] w fun e w' => e = .returned (.int .i64 r) ∧ Drawn0 w w' := by
  have H : (some (mx a0 (wrap64 (-a0)))) = some r := h
  clear h
  obtain ⟨ji2, hji2⟩ : ∃ j_ : Int, (mx a0 (wrap64 (-a0))) = j_ := ⟨_, rfl⟩
  replace H : (some ji2) = some r := by first | (rw [hji2] at H; exact H) | (simp only [hji2] at H ⊢; exact H)
  have hji2_ : (if a0 < (wrap64 (-a0)) then (wrap64 (-a0)) else a0) = ji2 := hji2
  obtain rfl := Option.some.inj H
  go_enter Try.func105, Try.ntmps105
  go_wp2
  go_ret
  exact ⟨by first | rfl | (simp only [← hji2]; first | rfl | (simp; rfl)) | (simp [*]; done), by repeat (first | exact Drawn0.refl _ | apply Drawn0.step)⟩
theorem impl_MatchSingles_1.eg : ∀ args w, (callFunc 104 args).run Try.prog w = .ok (.enter 104 args) w := enters_of Try.func104 (by kernel_rfl) rfl
set_option maxHeartbeats 8000000 in
set_option maxRecDepth 100000 in
theorem impl_MatchSingles_1.calls (w : World) (A0 : Option Addr) (c0 : Nat) (l : List S88) (gL gm gb : Nat) (hC : Kd.C k88 w A0 l.length l) (ps B B2 : List S92) (m m2 : Int) (vB vp : Value) (W : World) (hI : impl_MatchSingles_1.Inv w W A0 c0 l gL gm gb B m vB) (hp : Kd.R k92 92 W w.heap.size (fun k => k ≠ gm ∧ k ≠ gb) vp ps) (h : impl_MatchSingles_1.f l ps B m = some (B2, m2)) :
    Calls Try.prog 104 (#[vp] ++ #[.pointer (some ⟨gL, 0, none⟩), .pointer (some ⟨gm, 0, none⟩), .pointer (some ⟨gb, 0, none⟩)]) W fun e W' => e = .returned (.tuple #[]) ∧ (∃ v2, impl_MatchSingles_1.Inv w W' A0 c0 l gL gm gb B2 m2 v2) ∧ impl_MatchSingles_1.Fr gm gb W W' := by
  simp only [List.append_toArray, List.cons_append, List.nil_append]
  unfold impl_MatchSingles_1.f at h
  obtain ⟨s0, hs0, h⟩ := Option.bind_eq_some_iff.1 h
  have h := Option.some.inj h
  obtain ⟨Ap, cp, ep⟩ := Kd.R_slice hp
  subst ep
  have HP := Aside0.mk hp
  have HI := Aside0.mk hI
  have HCC := Aside0.mk hC
  have HS := Aside0.mk hs0
  have HB := Aside0.mk (Below.refl W.heap.size W)
  have HF := Aside0.mk h
  clear hp hI hC hs0 h
  go_enter Try.func104, Try.ntmps104
  go_wp2
  go_loopg [5, 10] ps.length (fun gg v5 v10 wr => ∃ (kk : Nat) (s : Int), kk + gg = ps.length ∧ v10 = .int .i64 (kk : Int) ∧ v5 = .int .i64 s ∧ Aside0 (impl_MatchSingles_1.sum l (ps.drop kk) s = some s0) ∧ Aside0 (Below W.heap.size W wr))
  case atStart => exact ⟨0, 0, by omega, rfl, rfl, HS, HB⟩
  case round =>
    clear HS HB
    obtain ⟨kk, s, hkk, rfl, rfl, HS, HB⟩ := hrel
    rcases Nat.lt_or_ge kk ps.length with hlt | hge
    · have c3b0 : decide ((kk : Int) < (ps.length : Int)) = true := decide_eq_true (by omega)
      obtain ⟨g1, rfl⟩ : ∃ g1, gk = g1 + 1 := ⟨gk - 1, by omega⟩
      have hS := HS.out
      rw [List.drop_eq_getElem_cons hlt, impl_MatchSingles_1.sum] at hS
      obtain ⟨x, hx, hS2⟩ := Option.bind_eq_some_iff.1 hS
      have HS2 := Aside0.mk hS2
      clear hS hS2 HS
      have HX := Aside0.mk hx
      clear hx
      have p5 : 0 ≤ (kk : Int) := by omega
      have q5 : (kk : Int) < (ps.length : Int) := by omega
      have hR := Kd.R_below HP.out HB.out
      obtain ⟨cR, hcR⟩ : ∃ c : Nat, Kd.C k92 wr Ap ps.length ps := ⟨0, (Kd.R_reads' hR).2.2⟩
      have HN63 := Aside0.mk (show ps.length ≤ 9223372036854775807 from hcR.2.1)
      obtain ⟨ad, ea, hx0, hx1⟩ := at_T92 hcR (kk : Int) p5 q5
      have er : rd_T92 ps (kk : Int) = ps[kk] := by unfold rd_T92; simp [List.getD, hlt]
      rw [er] at hx0 hx1
      rw [Int.toNat_natCast] at hx0 hx1
      subst ea
      have hcl : wr.cell? ⟨gL, 0, none⟩ = some (.slice A0 l.length c0) := (blk_cell (HI.out.next HB.out).hL 0).trans rfl
      unfold impl_MatchSingles_1.rest at HX
      by_cases cR : 0 ≤ ps[kk].f0 ∧ ps[kk].f0 < (l.length : Int) ∧ 0 ≤ ps[kk].f1 ∧ ps[kk].f1 < (l.length : Int)
      · have hX := HX.out
        rw [if_pos cR] at hX
        have HX2 := Aside0.mk hX
        clear hX HX
        obtain ⟨r0, r1, r2, r3⟩ := cR
        have hlC := Kd.C_below (Kd.C_below HCC.out HI.out.b) HB.out
        obtain ⟨a1, e1, _, hy1, _⟩ := at_T88 hlC ps[kk].f0 r0 r1
        obtain ⟨a2, e2, _, hy2, _⟩ := at_T88 hlC ps[kk].f1 r2 r3
        subst e1
        obtain rfl : a1 = a2 := by injection e2
        clear e2 hlC
        generalize ps[kk] = p at *
        generalize hz0 : p.f0 = z0 at *
        generalize hz1 : p.f1 = z1 at *
        go_wp2
        obtain ⟨W2, hW2⟩ : ∃ W2 : World, W2 = wr.alloc (.cells #[.int .i64 z0, .int .i64 z1] 92) := ⟨_, rfl⟩
        rw [← hW2]
        have Bz : Below wr.heap.size wr W2 := by rw [hW2]; exact below_alloc (Below.refl _ _) _
        have kcl := (Bz.cell (World.block_lt_of_cell? wr _ hcl)).trans hcl
        have ky1 := (Bz.cell (World.block_lt_of_cell? wr _ hy1)).trans hy1
        have ky2 := (Bz.cell (World.block_lt_of_cell? wr _ hy2)).trans hy2
        have kn0 : W2.cell? ⟨wr.heap.size, 0, none⟩ = some (.int .i64 z0) := by rw [hW2]; exact (blk_cell (blk_new wr _) 0).trans rfl
        have kn1 : W2.cell? ⟨wr.heap.size, 1, none⟩ = some (.int .i64 z1) := by rw [hW2]; exact (blk_cell (blk_new wr _) 1).trans rfl
        have HB2 := Aside0.mk (show Below W.heap.size W W2 by rw [hW2]; exact below_alloc HB.out _)
        clear HB Bz hcl hy1 hy2 hx0 hx1 hW2
        have HB := HB2
        clear HB2
        have hX3 : impl_size.f (wrap64 (wrap64 (rd_T88 l z0).f1 - wrap64 (rd_T88 l z1).f1)) = some x := HX2.out
        have HX3 := Aside0.mk hX3
        clear hX3
        have key : ∀ n : Nat, Calls Try.prog 105 #[.int .i64 (IntKind.i64.wrap (IntKind.i64.wrap (rd_T88 l z0).f1 - IntKind.i64.wrap (rd_T88 l z1).f1))] (W2.drewN n) fun e w' => e = .returned (.int .i64 x) ∧ ∃ m, w' = W2.drewN m := fun n => by
          simp only [impl_MatchSingles_1.wr64]
          exact Calls.quiet_of ((impl_MatchSingles_1.size _ x (W2.drewN n) HX3.out).mono (fun _ _ q => ⟨q.1, q.2.out⟩))
        go_quiet (first | exact key _)
        go_wp2
        go_roundg g1
        case measure => omega
        case rel => exact ⟨kk + 1, wrap64 (s + x), by omega, (by have := HN63.out; first | rfl | (congr 1; unfold wrap64; omega) | (simp; unfold wrap64; omega)), (by first | rfl | rw [impl_MatchSingles_1.wr64]), HS2, ⟨by repeat (first | (with_reducible first | exact HB.out | apply below_alloc | apply pw_below_drewN | apply below_drew1) | exact HB.out)⟩⟩
      · have hX := HX.out
        rw [if_neg cR] at hX
        cases hX
    · obtain rfl : kk = ps.length := by omega
      have hS := HS.out
      rw [List.drop_of_length_le (Nat.le_refl _), impl_MatchSingles_1.sum] at hS
      obtain rfl := Option.some.inj hS
      clear hS HS
      have c3b0 : decide ((ps.length : Int) < (ps.length : Int)) = false := decide_eq_false (by omega)
      have HI2 := Aside0.mk (HI.out.next HB.out)
      have HP2 := Aside0.mk (Kd.R_below HP.out HB.out)
      have hcm : wr.cell? ⟨gm, 0, none⟩ = some (.int .i64 m) := (blk_cell HI2.out.hm 0).trans rfl
      have hcb : wr.cell? ⟨gb, 0, none⟩ = some vB := (blk_cell HI2.out.hb 0).trans rfl
      have hfm := blk_frozen HI2.out.hm 0
      have hfb := blk_frozen HI2.out.hb 0
      have hgm : wr.heap[gm]? = some (.cells #[.int .i64 m] 2 (0, 0)) := HI2.out.hm
      have n3 := HI2.out.nd.2.2
      have hh := HF.out
      by_cases c1 : m < 0
      · rw [if_pos (Or.inl c1)] at hh
        simp only [Option.some.injEq, Prod.mk.injEq] at hh
        obtain ⟨rfl, rfl⟩ := hh
        have c1b : decide (m < 0) = true := decide_eq_true c1
        clear c1
        go_wp2
        refine bodyPost_end (results_none rfl _ _ _) rfl ⟨rfl, ⟨_, (HI2.out.best HP2.out _).1⟩, (impl_MatchSingles_1.Fr.of_below HB.out).trans (HI2.out.best HP2.out _).2⟩
      · have c1b : decide (m < 0) = false := decide_eq_false c1
        by_cases c2 : s < m
        · rw [if_pos (Or.inr c2)] at hh
          simp only [Option.some.injEq, Prod.mk.injEq] at hh
          obtain ⟨rfl, rfl⟩ := hh
          have c2b : decide (s < m) = true := decide_eq_true c2
          clear c1 c2
          go_wp2
          refine bodyPost_end (results_none rfl _ _ _) rfl ⟨rfl, ⟨_, (HI2.out.best HP2.out _).1⟩, (impl_MatchSingles_1.Fr.of_below HB.out).trans (HI2.out.best HP2.out _).2⟩
        · rw [if_neg (fun z => z.elim c1 c2)] at hh
          simp only [Option.some.injEq, Prod.mk.injEq] at hh
          obtain ⟨rfl, rfl⟩ := hh
          have c2b : decide (s < m) = false := decide_eq_false c2
          clear c1 c2
          go_wp2
          refine bodyPost_end (results_none rfl _ _ _) rfl ⟨rfl, ⟨_, HI2.out⟩, impl_MatchSingles_1.Fr.of_below HB.out⟩

-- NOT PRINTED: function 188 (slices_Grow_int64_int64)

end Go.Proofs.Ytjhjabibkkhmjaa.XFnExactMatchSingles
