/- The functions that the law FnPlies reaches: each as a Lean function, and that its call does what that function says; no conditions. -/
import Derived.Test.YthfanjdbemoaaaaXFnPliesx0
import Derived.Test.YthfanjdbemoaaaaXFnPliesx2
import Derived.Test.YthfanjdbemoaaaaXFnPliesx4
import Derived.Test.YthfanjdbemoaaaaXFnPliesx5
import Derived.Test.YthfanjdbemoaaaaXFnPliesx6
import Derived.Test.YthfanjdbemoaaaaXFnPliesx8
namespace Go.Proofs.Ythfanjdbemoaaaa.XFnPlies
open Go.RowKit Go.Proofs.YthfanjdbemoaaaaW.PrintWords Go.Proofs.YthfanjdbemoaaaaW.PrintLast Go.Proofs.YthfanjdbemoaaaaW.PrintMore
attribute [local go_sem] max2_int min2_int max_two min_two max_three min_three max_four min_four   -- for this text's walks alone
set_option linter.unusedVariables false
set_option linter.unusedSimpArgs false

attribute [local go_sem high] eqA41
/-! ### spec_MatchSingles: function 16 -/
/-- The rests of a yarn with those behind it. -/
def spec_MatchSingles.inner (k : Nat) (l : List S33) (a : Nat) : Nat → Nat → List Int → Option (List Int)
  | 0, _, R => some R
  | g + 1, b, R => (spec_l03Balance.f k [rd_T33 l (a : Int), rd_T33 l (b : Int)]).bind fun r => spec_MatchSingles.inner k l a g (b + 1) (R.set (a * 10 + b) r.2)
def spec_MatchSingles.outer (k : Nat) (l : List S33) : Nat → Nat → List Int → Option (List Int)
  | 0, _, R => some R
  | g + 1, a, R => (spec_MatchSingles.inner k l a (l.length - (a + 1)) (a + 1) R).bind fun R2 => spec_MatchSingles.outer k l g (a + 1) R2
def spec_MatchSingles.f (k : Nat) (l0 : List S33) : Option (List S41 × Int × Int) :=
  (spec_l03Asked.f k l0 true).bind fun c =>
    if (if c = 0 ∧ l0.length % 2 = 1 then (4 : Int) else c) = 0 then
      (if l0.length ≤ 10 then (spec_MatchSingles.outer k l0 l0.length 0 (List.replicate 100 0)).bind fun R => (spec_l03Match_from.f R (l0.length : Int) k [] 0 0 [] 0 false).bind fun r => some (r.1, r.2.1, 0)
      else none)
    else some ([], 0, if c = 0 ∧ l0.length % 2 = 1 then (4 : Int) else c)
theorem spec_MatchSingles.mono_i (k : Nat) (l : List S33) (a : Nat) : ∀ g b R, LeO (spec_MatchSingles.inner k l a g b R) (spec_MatchSingles.inner (k + 1) l a g b R)
  | 0, _, _ => LeO.refl _
  | g + 1, b, R => LeO.bind (spec_l03Balance.mono _ _) (fun _ => spec_MatchSingles.mono_i k l a g _ _)
theorem spec_MatchSingles.mono_o (k : Nat) (l : List S33) : ∀ g a R, LeO (spec_MatchSingles.outer k l g a R) (spec_MatchSingles.outer (k + 1) l g a R)
  | 0, _, _ => LeO.refl _
  | g + 1, a, R => LeO.bind (spec_MatchSingles.mono_i k l a _ _ _) (fun _ => spec_MatchSingles.mono_o k l g _ _)
theorem spec_MatchSingles.mono : ∀ a0 k, LeO (spec_MatchSingles.f k a0) (spec_MatchSingles.f (k + 1) a0) := by
  intro a0 k
  unfold spec_MatchSingles.f
  repeat' first
    | exact spec_l03Asked.mono _ _ _
    | exact spec_MatchSingles.mono_o _ _ _ _ _
    | exact (spec_l03Match_from.mono_l _ _ _).1 _ _ _ _ _ _
    | (with_reducible exact LeO.refl _)
    | (with_reducible refine LeO.ite ?_ ?_)
    | (with_reducible refine LeO.bind ?_ (fun _ => ?_))
/-- A literal row of two yarns. -/
theorem spec_MatchSingles.lit2 {W : World} {h : Nat} (y z : S33) (hh : W.heap[h]? = some (.cells #[.int .i16 y.f0, .int .i16 y.f1, .int .i16 y.f2, .int .i16 z.f0, .int .i16 z.f1, .int .i16 z.f2] 33 (0, 0))) : Kd.C k33 W (some ⟨h, 0, none⟩) 2 [y, z] := by
  refine ⟨rfl, by omega, fun _ => ⟨_, rfl, fun j p hj => ?_⟩⟩
  have e := fun i => blk_cell hh i
  match j, hj with
  | 0, hj =>
    obtain rfl : y = p := by simpa using hj
    refine ⟨_, rfl, k33_mk W y, fun i u hi => ?_⟩
    match i, hi with
    | 0, hi => simp at hi; subst hi; simpa [Addr.add] using e 0
    | 1, hi => simp at hi; subst hi; simpa [Addr.add] using e 1
    | 2, hi => simp at hi; subst hi; simpa [Addr.add] using e 2
    | n + 3, hi => simp at hi
  | 1, hj =>
    obtain rfl : z = p := by simpa using hj
    refine ⟨_, rfl, k33_mk W z, fun i u hi => ?_⟩
    match i, hi with
    | 0, hi => simp at hi; subst hi; simpa [Addr.add, k33, Kd.iso, Kd.pair, Kd.int, Kd.scalar] using e 3
    | 1, hi => simp at hi; subst hi; simpa [Addr.add, k33, Kd.iso, Kd.pair, Kd.int, Kd.scalar] using e 4
    | 2, hi => simp at hi; subst hi; simpa [Addr.add, k33, Kd.iso, Kd.pair, Kd.int, Kd.scalar] using e 5
    | n + 3, hi => simp at hi
  | n + 2, hj => simp at hj
theorem spec_MatchSingles.keepA {w : World} {o : Obj} {a : Addr} {v : Value} (h : w.cell? a = some v) : (w.alloc o).cell? a = some v :=
  (((Below.refl w.heap.size w).alloc (Nat.le_refl _) o).cell (World.block_lt_of_cell? w a h)).trans h
theorem spec_MatchSingles.keepD {w : World} {a : Addr} {v : Value} (h : w.cell? a = some v) : w.drew.cell? a = some v := h
theorem spec_MatchSingles.keepNN {w : World} {n : Nat} {a : Addr} {v : Value} (h : w.cell? a = some v) : (w.drewN n).cell? a = some v :=
  ((pw_below_drewN (Below.refl w.heap.size w) n).cell (World.block_lt_of_cell? w a h)).trans h
theorem spec_MatchSingles.top {w : World} {o : Obj} {g : Nat} (h : g = w.heap.size) : (w.alloc o).heap[g]? = some o := by
  subst h; exact blk_new w o
/-- A literal row of no pair. -/
theorem spec_MatchSingles.lit0 {W : World} {base h : Nat} (hh : W.heap[h]? = some (.cells #[] 41 (0, 0))) (hb : base ≤ h) : Kd.R k41 41 W base (fun _ => True) (.slice (some ⟨h, 0, none⟩) 0 0) [] :=
  ⟨fun _ _ => trivial, [], ⟨rfl, .inr ⟨h, 0, #[], rfl, hb, hh, Nat.le_refl _, Nat.zero_le _, rfl, rfl⟩⟩, Reps.none _ _⟩
theorem spec_MatchSingles.put_r {R : List Int} {n : Int} {vB : Value} {m : Int} {fd : Bool} (hl : R.length = 100) (i : Nat) (hi : i < 100) (v : Int) : (spec_l03Match_from.cs R n vB m fd).setIfInBounds i (.int .i64 v) = spec_l03Match_from.cs (R.set i v) n vB m fd := by
  unfold spec_l03Match_from.cs
  rw [List.setIfInBounds_toArray, List.set_append_left _ _ (by simp; omega), List.map_set]
theorem spec_MatchSingles.put {w W : World} {gw : Nat} {R : List Int} {n m : Int} {fd : Bool} (h : spec_l03Match_from.Inv w W gw R n [] m fd (.slice none 0 0)) (i : Nat) (hi : i < 100) (v : Int) : spec_l03Match_from.Inv w (W.setCell ⟨gw, i, none⟩ (.int .i64 v)) gw (R.set i v) n [] m fd (.slice none 0 0) :=
  ⟨below_set h.b h.g, h.g, by rw [List.length_set]; exact h.rl, blk_put h.h i _ (spec_MatchSingles.put_r h.rl i hi v), Kd.R_nil _ _ _ _ _⟩
set_option maxHeartbeats 8000000 in
set_option maxRecDepth 100000 in
theorem spec_MatchSingles.calls (k : Nat) (A0 : Option Addr) (c0 : Nat) (l0 : List S33) (r1 : List S41) (r2 r3 : Int) (w : World) (hr0 : Kd.C k33 w A0 l0.length l0) (hc0 : l0.length ≤ c0) (h : spec_MatchSingles.f k l0 = some (r1, r2, r3)) :
    Calls Try.prog 16 #[.slice A0 l0.length c0] w fun e w' => ∃ v0_ : Value, e = .returned (.tuple #[v0_, .int .i64 r2, .int .i64 r3]) ∧ Kd.R k41 41 w' w.heap.size (fun _ => True) v0_ r1 ∧ Below w.heap.size w w' := by
 unfold spec_MatchSingles.f at h
 obtain ⟨c, hc, h⟩ := Option.bind_eq_some_iff.mp h
 have HC := Aside0.mk hc
 have HR := Aside0.mk hr0
 have HC0 := Aside0.mk hc0
 have hu1 := Try.underlying67
 clear hc hr0 hc0
 by_cases hz : c = 0
 rotate_left
 · have hno : ¬ (c = 0 ∧ l0.length % 2 = 1) := fun z => hz z.1
   rw [if_neg hno, if_neg hz] at h
   have e := Option.some.inj h
   simp only [Prod.mk.injEq] at e
   obtain ⟨rfl, rfl, rfl⟩ := e
   have hz1 : (c == 0) = false := beq_eq_false_iff_ne.mpr hz
   have hz2 : (c != 0) = true := bne_iff_ne.mpr hz
   clear h
   go_enter Try.func16, Try.ntmps16
   go_wp2_with (first | (go_at_call 41; refine (spec_l03Asked.calls k A0 c0 l0 true c _ HR.out HC0.out HC.out).mono ?_; rintro e w4 ⟨rfl, hb4⟩; have B4 := Aside0.mk hb4; clear hb4))
   go_ret3
   exact ⟨_, rfl, spec_MatchSingles.lit0 (spec_MatchSingles.top rfl) B4.out.size, below_alloc B4.out _⟩
 subst hz
 by_cases hodd : l0.length % 2 = 1
 · rw [if_pos (show (0 : Int) = 0 ∧ l0.length % 2 = 1 from ⟨rfl, hodd⟩), if_neg (by decide)] at h
   have e := Option.some.inj h
   simp only [Prod.mk.injEq] at e
   obtain ⟨rfl, rfl, rfl⟩ := e
   have ho0 : (l0.length : Int).tmod 2 = 1 := by rw [Int.tmod_eq_emod_of_nonneg (by omega)]; omega
   have ho1 : ((l0.length : Int).tmod 2 == 1) = true := beq_iff_eq.mpr ho0
   clear h
   go_enter Try.func16, Try.ntmps16
   go_wp2_with (first | (go_at_call 41; refine (spec_l03Asked.calls k A0 c0 l0 true 0 _ HR.out HC0.out HC.out).mono ?_; rintro e w4 ⟨rfl, hb4⟩; have B4 := Aside0.mk hb4; clear hb4))
   go_ret3
   exact ⟨_, rfl, spec_MatchSingles.lit0 (spec_MatchSingles.top rfl) B4.out.size, below_alloc B4.out _⟩
 have hno : ¬ ((0 : Int) = 0 ∧ l0.length % 2 = 1) := fun z => hodd z.2
 rw [if_neg hno, if_pos rfl] at h
 have ho0 : (l0.length : Int).tmod 2 = 0 := by rw [Int.tmod_eq_emod_of_nonneg (by omega)]; omega
 have ho1 : ((l0.length : Int).tmod 2 == 1) = false := beq_eq_false_iff_ne.mpr (by omega)
 by_cases hn : l0.length ≤ 10
 rotate_left
 · rw [if_neg hn] at h; cases h
 rw [if_pos hn] at h
 obtain ⟨R, hR, h⟩ := Option.bind_eq_some_iff.mp h
 obtain ⟨⟨B2, m2, fd2⟩, hm, h⟩ := Option.bind_eq_some_iff.mp h
 have e := Option.some.inj h
 simp only [Prod.mk.injEq] at e
 obtain ⟨rfl, rfl, rfl⟩ := e
 clear h
 have HRs := Aside0.mk hR
 have HM := Aside0.mk hm
 clear hR hm
 go_enter Try.func16, Try.ntmps16
 go_upto_region 6 with (first | (go_at_call 41; refine (spec_l03Asked.calls k A0 c0 l0 true 0 _ HR.out HC0.out HC.out).mono ?_; rintro e w4 ⟨rfl, hb4⟩; have B4 := Aside0.mk hb4; clear hb4))
 go_wp2_with (first | ((with_reducible refine gate_dst (N := 28) rfl ?_); refine box_event ?hg (N := 28) ?hd (cs := spec_l03Match_from.cs (List.replicate 100 0) (l0.length : Int) (.slice none 0 0) 0 false) (t := 67) ?hr ?_; (case hd => rfl); (case hg => rfl); (case hr => first | (go_simp; done) | (go_simp; rfl) | kernel_rfl); intro gw hgw w5 hw5 hbb; have HI5 : Aside0 (spec_l03Match_from.Inv w w5 gw (List.replicate 100 0) (l0.length : Int) [] 0 false (.slice none 0 0)) := ⟨below_then B4.out B4.out.size hbb, by rw [hgw]; exact B4.out.size, by simp, hw5, Kd.R_nil _ _ _ _ _⟩; clear hw5 hbb hgw B4))
 generalize (Value.agg (Try.zeroCells67.setIfInBounds 100 (.int .i64 (l0.length : Int)))) = vz
 go_loopg [7, 8, 9, 10] (l0.length + 1) (fun gq v7 _ _ _ W2 => ∃ (a : Nat) (R1 : List Int), v7 = .int .i64 (a : Int) ∧ Aside0 (l0.length + 1 ≤ gq + a ∧ a ≤ l0.length) ∧ Aside0 (spec_MatchSingles.outer k l0 (l0.length - a) a R1 = some R) ∧ Aside0 (spec_l03Match_from.Inv w W2 gw R1 (l0.length : Int) [] 0 false (.slice none 0 0)))
 case atStart => exact ⟨0, _, rfl, ⟨Nat.le_refl _, Nat.zero_le _⟩, HRs, HI5⟩
 case round =>
 clear HRs HI5
 obtain ⟨a, R1, rfl, HK, HO, HI⟩ := hrel
 by_cases hx : a < l0.length
 rotate_left
 · have q2 : decide ((a : Int) < (l0.length : Int)) = false := decide_eq_false (by omega)
   obtain rfl : a = l0.length := by have := HK.out; omega
   have hO := HO.out
   rw [Nat.sub_self, spec_MatchSingles.outer] at hO
   obtain rfl := Option.some.inj hO
   clear hO HO HK
   go_wp2_with (first | (go_at_call 42; refine (spec_l03Match_from.calls w gw R1 (l0.length : Int) k (some ⟨wr.heap.size, 0, none⟩) 0 [] 0 0 [] 0 false (.slice none 0 0) _ B2 m2 fd2 (HI.out.next (below_alloc (Below.refl _ _) _)) (Kd.R_reads' (spec_MatchSingles.lit0 (base := 0) (spec_MatchSingles.top rfl) (Nat.zero_le _))).2.2 (Nat.le_refl _) (fun ad e => by injection e with e; subst e; have := blk_lt HI.out.h; show wr.heap.size ≠ gw; omega) HM.out).mono ?_; rintro e w8 ⟨rfl, hk, vB2, hI⟩; have HI8 := Aside0.mk hI; clear hk hI; have hcb : w8.cell? ⟨gw, 101, none⟩ = some vB2 := HI8.out.cb; have hcm : w8.cell? ⟨gw, 102, none⟩ = some (.int .i64 m2) := HI8.out.cm))
   refine wp_region_still_lit (by kernel_rfl) (by kernel_rfl) ?_
   repeat still_step
   refine wpStill_nil ?_
   change Exit.then _ _ _ _ (w8.drewN 1)
   go_wp2
   go_ret3
   exact ⟨_, rfl, Kd.R_drewN HI8.out.rb 1, pw_below_drewN HI8.out.b 1⟩
 have q2 : decide ((a : Int) < (l0.length : Int)) = true := decide_eq_true (by omega)
 have ga : l0.length - a = (l0.length - (a + 1)) + 1 := by omega
 have hO := HO.out
 rw [ga, spec_MatchSingles.outer] at hO
 obtain ⟨R2, hi2, hO⟩ := Option.bind_eq_some_iff.mp hO
 have HI2 := Aside0.mk hi2
 have HO2 := Aside0.mk hO
 have gx : a < 10 := by omega
 obtain ⟨go, rfl⟩ : ∃ g, gk = g + 1 := ⟨gk - 1, by have := HK.out; omega⟩
 clear hO hi2 HO ga
 go_wp2
 go_loopg [8, 9, 10] (l0.length + 1) (fun hq v8 _ _ W3 => ∃ (b : Nat) (R3 : List Int), v8 = .int .i64 (b : Int) ∧ Aside0 (l0.length + 1 ≤ hq + b ∧ b ≤ l0.length) ∧ Aside0 (spec_MatchSingles.inner k l0 a (l0.length - b) b R3 = some R2) ∧ Aside0 (spec_l03Match_from.Inv w W3 gw R3 (l0.length : Int) [] 0 false (.slice none 0 0)))
 case atStart => exact ⟨a + 1, R1, rfl, ⟨by omega, by omega⟩, HI2, HI⟩
 case round =>
 clear HI2 HI
 obtain ⟨b, R3, rfl, HK2, HI2, HI⟩ := hrel
 by_cases hy : b < l0.length
 rotate_left
 · have q3 : decide ((b : Int) < (l0.length : Int)) = false := decide_eq_false (by omega)
   obtain rfl : b = l0.length := by have := HK2.out; omega
   have hI2 := HI2.out
   rw [Nat.sub_self, spec_MatchSingles.inner] at hI2
   obtain rfl := Option.some.inj hI2
   clear hI2 HI2 HK2
   go_wp2
   go_roundg go
   case measure => omega
   case rel => exact ⟨a + 1, R3, rfl, ⟨by have := HK.out; omega, by omega⟩, HO2, HI⟩
 have q3 : decide ((b : Int) < (l0.length : Int)) = true := decide_eq_true (by omega)
 have gb : l0.length - b = (l0.length - (b + 1)) + 1 := by omega
 have hI2 := HI2.out
 rw [gb, spec_MatchSingles.inner] at hI2
 obtain ⟨⟨x1, x2⟩, hbal, hI2⟩ := Option.bind_eq_some_iff.mp hI2
 simp only at hI2
 have HBal := Aside0.mk hbal
 have HI3 := Aside0.mk hI2
 have gy : b < 10 := by omega
 clear hI2 hbal HI2 gb
 have hlC := Kd.C_below HR.out HI.out.b
 obtain ⟨ad1, e1, ha0, ha1, ha2⟩ := at_T33 hlC (a : Int) (by omega) (by omega)
 obtain ⟨ad2, e2, hb0, hb1, hb2⟩ := at_T33 hlC (b : Int) (by omega) (by omega)
 subst e1
 obtain rfl : ad1 = ad2 := by injection e2
 clear e2 hlC
 rw [Int.toNat_natCast] at ha0 ha1 ha2 hb0 hb1 hb2
 generalize rd_T33 l0 (a : Int) = ya at *
 generalize rd_T33 l0 (b : Int) = yb at *
 have qa0 : (0 : Int) ≤ (a : Int) := by omega
 have qb0 : (0 : Int) ≤ (b : Int) := by omega
 have qa1 : (a : Int) < (l0.length : Int) := by omega
 have qb1 : (b : Int) < (l0.length : Int) := by omega
 go_upto_region 13 with (fail)
 have gy1 : (b : Int) < 10 := by omega
 have gx1 : (a : Int) < 10 := by omega
 go_cut [7, 8, 9, 10] (fun v7 v8 _ v10 W7 => v7 = .int .i64 (a : Int) ∧ v8 = .int .i64 (b : Int) ∧ v10 = .int .i64 x2 ∧ Aside0 (Below wr.heap.size wr W7))
 case first  =>
  go_region_held3 (fun w' => w'.cell? (ad1.add (a * 3)) = some (.int .i16 ya.f0) ∧ w'.cell? ⟨(ad1.add (a * 3)).block, (ad1.add (a * 3)).off + 1, none⟩ = some (.int .i16 ya.f1) ∧ w'.cell? ⟨(ad1.add (a * 3)).block, (ad1.add (a * 3)).off + 2, none⟩ = some (.int .i16 ya.f2) ∧ w'.cell? (ad1.add (b * 3)) = some (.int .i16 yb.f0) ∧ w'.cell? ⟨(ad1.add (b * 3)).block, (ad1.add (b * 3)).off + 1, none⟩ = some (.int .i16 yb.f1) ∧ w'.cell? ⟨(ad1.add (b * 3)).block, (ad1.add (b * 3)).off + 2, none⟩ = some (.int .i16 yb.f2)) ((repeat' (with_reducible refine And.intro ?_ ?_)) <;> ((repeat (first | (with_reducible refine spec_MatchSingles.keepD ?_) | (with_reducible refine spec_MatchSingles.keepA ?_) | (with_reducible refine spec_MatchSingles.keepNN ?_))); (first | (with_reducible exact ha0) | (with_reducible exact ha1) | (with_reducible exact ha2) | (with_reducible exact hb0) | (with_reducible exact hb1) | (with_reducible exact hb2) | (with_reducible exact ga0) | (with_reducible exact ga1) | (with_reducible exact ga2) | (with_reducible exact gb0) | (with_reducible exact gb1) | (with_reducible exact gb2)))) (first | (go_at_call 29; refine (spec_l03Balance.calls k (some ⟨wr.heap.size, 0, none⟩) 2 [ya, yb] x1 x2 _ (spec_MatchSingles.lit2 ya yb (by (repeat (first | exact spec_MatchSingles.top rfl | (with_reducible refine blk_drew ?_))))) (Nat.le_refl _) HBal.out).mono ?_; rintro e w7 ⟨rfl, hd⟩; have HB7 := Aside0.mk (show Below wr.heap.size wr w7 from by (obtain ⟨nd, hnd⟩ := hd.out; subst hnd; (repeat (first | exact Below.refl _ _ | (with_reducible refine below_drew1 ?_) | (with_reducible refine below_alloc ?_ _) | (with_reducible refine pw_below_drewN ?_ _))))); clear hd; have ga0 := (HB7.out.cell (World.block_lt_of_cell? wr _ ha0)).trans ha0; have ga1 := (HB7.out.cell (World.block_lt_of_cell? wr _ ha1)).trans ha1; have ga2 := (HB7.out.cell (World.block_lt_of_cell? wr _ ha2)).trans ha2; have gb0 := (HB7.out.cell (World.block_lt_of_cell? wr _ hb0)).trans hb0; have gb1 := (HB7.out.cell (World.block_lt_of_cell? wr _ hb1)).trans hb1; have gb2 := (HB7.out.cell (World.block_lt_of_cell? wr _ hb2)).trans hb2))
  all_goals
   (try go_wp2)
   go_meet
   case rel => exact ⟨rfl, rfl, rfl, HB7⟩
 case rest  =>
 obtain ⟨rfl, rfl, rfl, HB7⟩ := hcut
 have HI8 := Aside0.mk (HI.out.next HB7.out)
 clear HB7 HI ha0 ha1 ha2 hb0 hb1 hb2
 have hcr : wc.cell? ⟨gw, a * 10 + b, none⟩ = some (.int .i64 (R3.getD (a * 10 + b) 0)) := HI8.out.cr (a * 10 + b) (by omega)
 have hfr := blk_frozen HI8.out.h (a * 10 + b)
 go_wp2
 go_roundg (gk - 1)
 case measure => have := HK2.out; omega
 case rel => exact ⟨b + 1, R3.set (a * 10 + b) x2, rfl, ⟨by have := HK2.out; omega, by omega⟩, ⟨by have z := HI3.out; exact z⟩, ⟨spec_MatchSingles.put HI8.out (a * 10 + b) (by omega) x2⟩⟩

/-! ### spec_SamePairs: function 17 -/
def spec_SamePairs.l0 : Nat → List (S41) → List (S41) → Int → Option (Bool)
  | 0, _, _, _ => none
  | k + 1, x0, x1, x5 => if x5 < (x0.length : Int) then (if 0 ≤ x5 then (if x5 < (x1.length : Int) then (if (!(((rd_T41 x0 x5).f0) == ((rd_T41 x1 x5).f0)) || (!(((rd_T41 x0 x5).f1) == ((rd_T41 x1 x5).f1)))) = true then (some false) else (spec_SamePairs.l0 k x0 x1 (wrap64 (x5 + 1)))) else (none)) else (none)) else (some true)
def spec_SamePairs.f (k : Nat) (l0 : List (S41)) (l1 : List (S41)) : Option (Bool) := if (l0.length : Int) = (l1.length : Int) then (spec_SamePairs.l0 k l0 l1 0) else (some false)
theorem spec_SamePairs.mono_l : ∀ k, (∀ y0 y1 y2, LeO (spec_SamePairs.l0 k y0 y1 y2) (spec_SamePairs.l0 (k + 1) y0 y1 y2))
  | 0 => fun _ _ _ r h => by simp [spec_SamePairs.l0] at h
  | k + 1 => by
    have ih0 := spec_SamePairs.mono_l k
    · intro y0 y1 y2
      unfold spec_SamePairs.l0
      repeat' first
      | (with_reducible exact ih0 _ _ _)
      | (with_reducible exact LeO.refl _)
      | (with_reducible exact LeO.none _)
      | (with_reducible refine LeO.ite ?_ ?_)
      | (with_reducible refine LeO.bind ?_ (fun _ => ?_))
      | (with_reducible refine allG_mono _ (fun _ => ?_))
      | (with_reducible refine idxG_mono _ (fun _ => ?_))
      | exact ih0 _ _ _
      | exact LeO.none _
      | refine LeO.ite ?_ ?_
      | refine LeO.bind ?_ (fun _ => ?_)
theorem spec_SamePairs.mono : ∀ a0 a1 k, LeO (spec_SamePairs.f k a0 a1) (spec_SamePairs.f (k + 1) a0 a1) := by
  intro a0 a1 k
  have ih0 := spec_SamePairs.mono_l k
  unfold spec_SamePairs.f
  repeat' first
      | (with_reducible exact ih0 _ _ _)
      | (with_reducible exact LeO.refl _)
      | (with_reducible exact LeO.none _)
      | (with_reducible refine LeO.ite ?_ ?_)
      | (with_reducible refine LeO.bind ?_ (fun _ => ?_))
      | (with_reducible refine allG_mono _ (fun _ => ?_))
      | (with_reducible refine idxG_mono _ (fun _ => ?_))
      | exact ih0 _ _ _
      | exact LeO.none _
      | refine LeO.ite ?_ ?_
      | refine LeO.bind ?_ (fun _ => ?_)
set_option maxHeartbeats 8000000 in
set_option maxRecDepth 100000 in
theorem spec_SamePairs.calls (k : Nat) (A0 : Option Addr) (c0 : Nat) (l0 : List (S41)) (A1 : Option Addr) (c1 : Nat) (l1 : List (S41)) (r : Bool) (w : World) (hr0 : Kd.C k41 w A0 l0.length l0) (hc0 : l0.length ≤ c0) (hr1 : Kd.C k41 w A1 l1.length l1) (hc1 : l1.length ≤ c1) (h : spec_SamePairs.f k l0 l1 = some r) :
    Calls Try.prog 17 #[.slice A0 l0.length c0, .slice A1 l1.length c1] w fun e w' => e = .returned (.bool r) ∧ Drawn0 w w' := by
 have hu41 := Try.underlying41
 have HR0 := Aside0.mk hr0
 have HC0 := Aside0.mk hc0
 clear hr0 hc0
 have HR1 := Aside0.mk hr1
 have HC1 := Aside0.mk hc1
 clear hr1 hc1
 have H : (if (l0.length : Int) = (l1.length : Int) then (spec_SamePairs.l0 k l0 l1 0) else (some false)) = some r := h
 clear h
 by_cases c3 : (l0.length : Int) = (l1.length : Int)
 rotate_left
 · rw [if_neg c3] at H
   have c3b0 : ((l0.length : Int) == (l1.length : Int)) = false := beq_eq_false_iff_ne.mpr c3
   have c3b1 : ((l0.length : Int) != (l1.length : Int)) = true := bne_iff_ne.mpr c3
   have c3b2 : (l0.length == l1.length) = false := by first | simpa using c3 | (simp at c3 ⊢; omega)
   obtain rfl := Option.some.inj H
   go_enter Try.func17, Try.ntmps17
   go_wp2
   repeat (go_quiet (fail); try go_wp2)
   go_ret
   exact ⟨zx, by repeat (first | exact Drawn0.refl _ | apply Drawn0.step)⟩
 rw [if_pos c3] at H
 have c3b0 : ((l0.length : Int) == (l1.length : Int)) = true := beq_iff_eq.mpr c3
 have c3b1 : ((l0.length : Int) != (l1.length : Int)) = false := bne_eq_false_iff_eq.mpr c3
 have c3b2 : (l0.length == l1.length) = true := by first | simpa using c3 | (simp at c3 ⊢; omega)
 clear c3
 have H' := Aside0.mk H
 clear H
 go_enter Try.func17, Try.ntmps17
 go_wp2
 repeat (go_quiet (fail); try go_wp2)
 go_loopg [5] k (fun kq v5 w' => ∃ (x5_1 : Int), v5 = .int .i64 x5_1 ∧ Aside0 (spec_SamePairs.l0 kq l0 l1 x5_1 = some r) ∧ Aside0 (kq ≤ k) ∧ Drawn0 w w')
 case atStart => exact ⟨(0), zx, H', ⟨Nat.le_refl _⟩, by repeat (first | exact Drawn0.refl _ | apply Drawn0.step)⟩
 case round =>
 clear H'
 try clear c1
 try clear p2
 try clear c3
 try clear c3b0
 try clear c3b1
 try clear c3b2
 obtain ⟨x5_1, rfl, HA, HK1, ⟨m1, rfl⟩⟩ := hrel
 cases gk with
 | zero => exact absurd HA.out (by simp [spec_SamePairs.l0])
 | succ k1 =>
  have H := HA.out
  clear HA
  simp only [spec_SamePairs.l0] at H
  by_cases c4 : x5_1 < (l0.length : Int)
  rotate_left
  · rw [if_neg c4] at H
    have c4b0 : decide (x5_1 < (l0.length : Int)) = false := decide_eq_false c4
    clear c4
    obtain rfl := Option.some.inj H
    go_wp2
    repeat (go_quiet (fail); try go_wp2)
    go_ret
    exact ⟨zx, by repeat (first | exact Drawn0.refl _ | apply Drawn0.step)⟩
  rw [if_pos c4] at H
  have c4b0 : decide (x5_1 < (l0.length : Int)) = true := decide_eq_true c4
  clear c4
  by_cases c5 : 0 ≤ x5_1
  rotate_left
  · rw [if_neg c5] at H
    exact absurd H (by simp)
  rw [if_pos c5] at H
  have c5b0 : decide (0 ≤ x5_1) = true := decide_eq_true c5
  clear c5
  by_cases c6 : x5_1 < (l1.length : Int)
  rotate_left
  · rw [if_neg c6] at H
    exact absurd H (by simp)
  rw [if_pos c6] at H
  have c6b0 : decide (x5_1 < (l1.length : Int)) = true := decide_eq_true c6
  clear c6
  by_cases c7 : (!(((rd_T41 l0 x5_1).f0) == ((rd_T41 l1 x5_1).f0)) || (!(((rd_T41 l0 x5_1).f1) == ((rd_T41 l1 x5_1).f1)))) = true
  · rw [if_pos c7] at H
    have c7b0 : (!(((rd_T41 l0 x5_1).f0) == ((rd_T41 l1 x5_1).f0)) || (!(((rd_T41 l0 x5_1).f1) == ((rd_T41 l1 x5_1).f1)))) = true := c7
    clear c7
    obtain rfl := Option.some.inj H
    have p231 : 0 ≤ (x5_1 : Int) := zd
    have q231 : x5_1 < (l0.length : Int) := zd
    obtain ⟨ad231, e231, hx231_0, hx231_1⟩ := at_T41 HR0.out x5_1 p231 q231
    cases e231
    replace p231 := eq_true p231
    replace q231 := eq_true q231
    have p232 : 0 ≤ (x5_1 : Int) := zd
    have q232 : x5_1 < (l1.length : Int) := zd
    obtain ⟨ad232, e232, hx232_0, hx232_1⟩ := at_T41 HR1.out x5_1 p232 q232
    cases e232
    replace p232 := eq_true p232
    replace q232 := eq_true q232
    go_wp2
    repeat (go_quiet (fail); try go_wp2)
    go_ret
    exact ⟨zx, by repeat (first | exact Drawn0.refl _ | apply Drawn0.step)⟩
  rw [if_neg c7] at H
  have c7b0 : (!(((rd_T41 l0 x5_1).f0) == ((rd_T41 l1 x5_1).f0)) || (!(((rd_T41 l0 x5_1).f1) == ((rd_T41 l1 x5_1).f1)))) = false := by simpa using c7
  clear c7
  have H' := Aside0.mk H
  clear H
  have p231 : 0 ≤ (x5_1 : Int) := zd
  have q231 : x5_1 < (l0.length : Int) := zd
  obtain ⟨ad231, e231, hx231_0, hx231_1⟩ := at_T41 HR0.out x5_1 p231 q231
  cases e231
  replace p231 := eq_true p231
  replace q231 := eq_true q231
  have p232 : 0 ≤ (x5_1 : Int) := zd
  have q232 : x5_1 < (l1.length : Int) := zd
  obtain ⟨ad232, e232, hx232_0, hx232_1⟩ := at_T41 HR1.out x5_1 p232 q232
  cases e232
  replace p232 := eq_true p232
  replace q232 := eq_true q232
  go_wp2
  repeat (go_quiet (fail); try go_wp2)
  go_roundg k1
  case measure => have := HK1.out; omega
  case rel => exact ⟨(wrap64 (x5_1 + 1)), zx, H', ⟨by have := HK1.out; omega⟩, by repeat (first | exact Drawn0.refl _ | apply Drawn0.step)⟩

/-! ### impl_divisor: function 68 -/
def impl_divisor.l0 : Nat → Int → Int → Option (Int)
  | 0, _, _ => none
  | k + 1, x0, x1 => if x1 = 0 then (some x0) else (impl_divisor.l0 k x1 (Int.tmod x0 x1))
def impl_divisor.f (k : Nat) (a0 : Int) (a1 : Int) : Option (Int) := (impl_size.f a0).bind fun t233 => ((impl_size.f a1).bind fun t234 => (impl_divisor.l0 k t233 t234))
theorem impl_divisor.mono_l : ∀ k, (∀ y0 y1, LeO (impl_divisor.l0 k y0 y1) (impl_divisor.l0 (k + 1) y0 y1))
  | 0 => fun _ _ r h => by simp [impl_divisor.l0] at h
  | k + 1 => by
    have ih0 := impl_divisor.mono_l k
    · intro y0 y1
      unfold impl_divisor.l0
      repeat' first
      | (with_reducible exact ih0 _ _)
      | (with_reducible exact LeO.refl _)
      | (with_reducible exact LeO.none _)
      | (with_reducible refine LeO.ite ?_ ?_)
      | (with_reducible refine LeO.bind ?_ (fun _ => ?_))
      | (with_reducible refine allG_mono _ (fun _ => ?_))
      | (with_reducible refine idxG_mono _ (fun _ => ?_))
      | exact ih0 _ _
      | exact LeO.none _
      | refine LeO.ite ?_ ?_
      | refine LeO.bind ?_ (fun _ => ?_)
theorem impl_divisor.mono : ∀ a0 a1 k, LeO (impl_divisor.f k a0 a1) (impl_divisor.f (k + 1) a0 a1) := by
  intro a0 a1 k
  have ih0 := impl_divisor.mono_l k
  unfold impl_divisor.f
  repeat' first
      | (with_reducible exact ih0 _ _)
      | (with_reducible exact LeO.refl _)
      | (with_reducible exact LeO.none _)
      | (with_reducible refine LeO.ite ?_ ?_)
      | (with_reducible refine LeO.bind ?_ (fun _ => ?_))
      | (with_reducible refine allG_mono _ (fun _ => ?_))
      | (with_reducible refine idxG_mono _ (fun _ => ?_))
      | exact ih0 _ _
      | exact LeO.none _
      | refine LeO.ite ?_ ?_
      | refine LeO.bind ?_ (fun _ => ?_)
set_option maxHeartbeats 8000000 in
set_option maxRecDepth 100000 in
theorem impl_divisor.calls (k : Nat) (a0 : Int) (a1 : Int) (r : Int) (w : World) (h : impl_divisor.f k a0 a1 = some r) :
    Calls Try.prog 68 #[.int .i64 a0, .int .i64 a1] w fun e w' => e = .returned (.int .i64 r) ∧ Below w.heap.size w w' := by
 have HB := Aside0.mk (Below.refl w.heap.size w)
 have H : ((impl_size.f a0).bind fun t233 => ((impl_size.f a1).bind fun t234 => (impl_divisor.l0 k t233 t234))) = some r := h
 clear h
 replace H := Option.bind_eq_some_iff.mp H
 obtain ⟨t233, A30, H⟩ := H
 replace H : ((impl_size.f a1).bind fun t234 => (impl_divisor.l0 k t233 t234)) = some r := H
 have A3 := Aside0.mk A30
 clear A30
 replace H := Option.bind_eq_some_iff.mp H
 obtain ⟨t234, A40, H⟩ := H
 replace H : (impl_divisor.l0 k t233 t234) = some r := H
 have A4 := Aside0.mk A40
 clear A40
 have H' := Aside0.mk H
 clear H
 go_enter Try.func68, Try.ntmps68
 go_wp2_with (first | (go_at_call 40; (with_reducible refine (impl_size.calls a0 t233 _ A3.out).mono ?_); rintro e w5 ⟨rfl, hb⟩; refine up1 (below_step (zb HB.out) hb) ?_; clear HB; intro HB; (try clear hb); (try clear hb2); (try clear hk); (try clear hi)) | (go_at_call 40; (with_reducible refine (impl_size.calls a1 t234 _ A4.out).mono ?_); rintro e w6 ⟨rfl, hb⟩; refine up1 (below_step (zb HB.out) hb) ?_; clear HB; intro HB; (try clear hb); (try clear hb2); (try clear hk); (try clear hi)))
 repeat (go_quiet (first | (go_at_call 40; (with_reducible refine (impl_size.calls a0 t233 _ A3.out).mono ?_); rintro e w5 ⟨rfl, hb⟩; refine up1 (below_step (zb HB.out) hb) ?_; clear HB; intro HB; (try clear hb); (try clear hb2); (try clear hk); (try clear hi)) | (go_at_call 40; (with_reducible refine (impl_size.calls a1 t234 _ A4.out).mono ?_); rintro e w6 ⟨rfl, hb⟩; refine up1 (below_step (zb HB.out) hb) ?_; clear HB; intro HB; (try clear hb); (try clear hb2); (try clear hk); (try clear hi))); try go_wp2_with (first | (go_at_call 40; (with_reducible refine (impl_size.calls a0 t233 _ A3.out).mono ?_); rintro e w5 ⟨rfl, hb⟩; refine up1 (below_step (zb HB.out) hb) ?_; clear HB; intro HB; (try clear hb); (try clear hb2); (try clear hk); (try clear hi)) | (go_at_call 40; (with_reducible refine (impl_size.calls a1 t234 _ A4.out).mono ?_); rintro e w6 ⟨rfl, hb⟩; refine up1 (below_step (zb HB.out) hb) ?_; clear HB; intro HB; (try clear hb); (try clear hb2); (try clear hk); (try clear hi))))
 go_loopg [0, 1] k (fun kq v0 v1 w' => ∃ (x0_1 : Int) (x1_1 : Int), v0 = .int .i64 x0_1 ∧ v1 = .int .i64 x1_1 ∧ Aside0 (impl_divisor.l0 kq x0_1 x1_1 = some r) ∧ Aside0 (kq ≤ k) ∧ Aside0 (Below w.heap.size w w'))
 case atStart => exact ⟨(t233), (t234), zx, zx, H', ⟨Nat.le_refl _⟩, ⟨zb HB.out⟩⟩
 case round =>
 clear H'
 try clear p2
 try clear c6
 obtain ⟨x0_1, x1_1, rfl, rfl, HA, HK1, HB⟩ := hrel
 cases gk with
 | zero => exact absurd HA.out (by simp [impl_divisor.l0])
 | succ k1 =>
  have H := HA.out
  clear HA
  simp only [impl_divisor.l0] at H
  by_cases c7 : x1_1 = 0
  · rw [if_pos c7] at H
    have c7b0 : (x1_1 == 0) = true := beq_iff_eq.mpr c7
    have c7b1 : (x1_1 != 0) = false := bne_eq_false_iff_eq.mpr c7
    clear c7
    obtain rfl := Option.some.inj H
    go_wp2
    repeat (go_quiet (fail); try go_wp2)
    go_ret
    exact ⟨zs, zb HB.out⟩
  rw [if_neg c7] at H
  have c7b0 : (x1_1 == 0) = false := beq_eq_false_iff_ne.mpr c7
  have c7b1 : (x1_1 != 0) = true := bne_iff_ne.mpr c7
  have H' := Aside0.mk H
  clear H
  go_wp2
  repeat (go_quiet (fail); try go_wp2)
  go_roundg k1
  case measure => have := HK1.out; omega
  case rel => exact ⟨(x1_1), (Int.tmod x0_1 x1_1), zx, zx, H', ⟨by have := HK1.out; omega⟩, ⟨zb HB.out⟩⟩

/-! ### impl_fraction: function 62 -/
def impl_fraction.f (k : Nat) (a0 : Int) (a1 : Int) : Option (Int × Int) := (impl_divisor.f k a0 a1).bind fun t236 => (if a1 < 0 then (if (wrap64 (-t236)) = 0 then (none) else (some (wrap64 (Int.tdiv a0 (wrap64 (-t236))), wrap64 (Int.tdiv a1 (wrap64 (-t236)))))) else (if t236 = 0 then (none) else (some (wrap64 (Int.tdiv a0 t236), wrap64 (Int.tdiv a1 t236)))))
theorem impl_fraction.mono : ∀ a0 a1 k, LeO (impl_fraction.f k a0 a1) (impl_fraction.f (k + 1) a0 a1) := by
  intro a0 a1 k
  unfold impl_fraction.f
  repeat' first
      | (with_reducible exact impl_divisor.mono _ _ _)
      | (with_reducible exact LeO.refl _)
      | (with_reducible exact LeO.none _)
      | (with_reducible refine LeO.ite ?_ ?_)
      | (with_reducible refine LeO.bind ?_ (fun _ => ?_))
      | (with_reducible refine allG_mono _ (fun _ => ?_))
      | (with_reducible refine idxG_mono _ (fun _ => ?_))
      | exact impl_divisor.mono _ _ _
      | exact LeO.none _
      | refine LeO.ite ?_ ?_
      | refine LeO.bind ?_ (fun _ => ?_)
def impl_fraction.T4 : Bool × List (List Nat × List Nat) := (true, [([], []), ([], []), ([0, 1], [0, 1]), ([], []), ([], []), ([3, 4], [3, 4]), ([2, 5], [2, 5]), ([6, 0, 1, 2, 3, 4, 5, 6], [6])])
def impl_fraction.B4 : List Nat := [0, 0, 3, 0, 0, 24, 63, 127]
theorem impl_fraction.tab4 : rtab .any (opsOf Try.f62 4) = impl_fraction.T4 := by kernel_rfl
theorem impl_fraction.bits4 : waitsOk impl_fraction.T4.2 impl_fraction.B4 = true := by kernel_rfl
set_option maxHeartbeats 8000000 in
set_option maxRecDepth 100000 in
theorem impl_fraction.calls (k : Nat) (a0 : Int) (a1 : Int) (r1 : Int) (r2 : Int) (w : World) (h : impl_fraction.f k a0 a1 = some (r1, r2)) :
    Calls Try.prog 62 #[.int .i64 a0, .int .i64 a1] w fun e w' => e = .returned (.agg #[.int .i64 r1, .int .i64 r2]) ∧ Below w.heap.size w w' := by
 have hu43 := Try.underlying43
 have HB := Aside0.mk (Below.refl w.heap.size w)
 have H : ((impl_divisor.f k a0 a1).bind fun t236 => (if a1 < 0 then (if (wrap64 (-t236)) = 0 then (none) else (some (wrap64 (Int.tdiv a0 (wrap64 (-t236))), wrap64 (Int.tdiv a1 (wrap64 (-t236)))))) else (if t236 = 0 then (none) else (some (wrap64 (Int.tdiv a0 t236), wrap64 (Int.tdiv a1 t236)))))) = some (r1, r2) := h
 clear h
 replace H := Option.bind_eq_some_iff.mp H
 obtain ⟨t236, A30, H⟩ := H
 replace H : (if a1 < 0 then (if (wrap64 (-t236)) = 0 then (none) else (some (wrap64 (Int.tdiv a0 (wrap64 (-t236))), wrap64 (Int.tdiv a1 (wrap64 (-t236)))))) else (if t236 = 0 then (none) else (some (wrap64 (Int.tdiv a0 t236), wrap64 (Int.tdiv a1 t236))))) = some (r1, r2) := H
 have A3 := Aside0.mk A30
 clear A30
 by_cases c4 : a1 < 0
 · rw [if_pos c4] at H
   have c4b0 : decide (a1 < 0) = true := decide_eq_true c4
   clear c4
   by_cases c5 : (wrap64 (-t236)) = 0
   · rw [if_pos c5] at H
     exact absurd H (by simp)
   rw [if_neg c5] at H
   have c5b0 : ((wrap64 (-t236)) == 0) = false := beq_eq_false_iff_ne.mpr c5
   have c5b1 : ((wrap64 (-t236)) != 0) = true := bne_iff_ne.mpr c5
   simp only [Option.some.injEq, Prod.mk.injEq] at H
   obtain ⟨rfl, rfl⟩ := H
   go_enter Try.func62, Try.ntmps62
   try go_wp2_with (first | ((with_reducible refine gate_dst (N := 4) rfl ?_); refine box_event ?hg (N := 4) ?hd (cs := #[.int .i64 0, .int .i64 0]) (t := 43) ?hr ?_; (case hd => rfl); (case hg => rfl); (case hr => first | (go_simp; done) | (go_simp; rfl)); intro gb235 hg w6 hbox hb; refine up4 (below_step (zb HB.out) hb) (hbox) ((by rw [hg]; exact (below_size (zb HB.out)) : w.heap.size ≤ gb235)) ((by rw [hg]; exact (below_size (zb HB.out)) : w.heap.size ≤ gb235)) ?_; clear HB; intro HB BK235 GW235 GE235; clear hb hbox hg) | ((with_reducible refine gate_callee (f := 68) rfl ?_); refine goesL_ (some 8) rfl rfl Try.func68 (by kernel_rfl) rfl #[.int .i64 a0, .int .i64 a1] rfl zr ?_; (with_reducible refine (impl_divisor.calls k a0 a1 t236 _ A3.out).mono ?_); rintro e w7 ⟨rfl, hb⟩; refine ⟨_, rfl, ?_⟩; refine up2 (blk_below (g := gb235) (o := .cells #[.int .i64 0, .int .i64 0] 43 (0, 0)) (zq BK235.out) hb) (below_step (zb1 HB.out GE235.out) hb) ?_; clear BK235 HB; intro BK235 HB; (try clear hb); (try clear hb2); (try clear hk); (try clear hi)))
   refine up2 (blk_drew BK235.out) (below_drew1 HB.out) ?_
   clear BK235 HB
   intro BK235 HB
   refine start_ (n := 8) (S := fun w' => True) (ds := []) #[false, false, false, false, false, false, false, false] (by kernel_rfl) rfl rfl trivial (fun hHeld => ?_); refine with_tabW impl_fraction.tab4 impl_fraction.bits4 (fun HT_ HW_ => ?_)
   generalize w7.drew = w8 at BK235 HB hHeld ⊢
   refine pure_ (i := 0) (N := some 13) #[true, false, false, false, false, false, false, false] rfl rfl (any_of HT_.out (by kernel_rfl)) (fun _ _ _ h => h) (Or.inl ⟨by rfl, zy⟩) za ?_
   refine pure_ (i := 1) (N := some 14) #[true, true, false, false, false, false, false, false] rfl rfl (any_of HT_.out (by kernel_rfl)) (fun _ _ _ h => h) (Or.inl ⟨by rfl, zy⟩) za ?_
   refine pure_ (i := 2) (N := some 15) #[true, true, true, false, false, false, false, false] rfl rfl (any_of HT_.out (by kernel_rfl)) (fun _ _ _ h => h) (Or.inl ⟨by rfl, zy⟩) za ?_
   refine pure_ (i := 3) (N := some 16) #[true, true, true, true, false, false, false, false] rfl rfl (any_of HT_.out (by kernel_rfl)) (fun _ _ _ h => h) (Or.inl ⟨by rfl, zy⟩) za ?_
   refine pure_ (i := 4) (N := some 17) #[true, true, true, true, true, false, false, false] rfl rfl (any_of HT_.out (by kernel_rfl)) (fun _ _ _ h => h) (Or.inl ⟨by rfl, zy⟩) za ?_
   refine pure_ (i := 5) (N := some 18) #[true, true, true, true, true, true, false, false] rfl rfl (any_of HT_.out (by kernel_rfl)) (fun _ _ _ h => h) (Or.inl ⟨by rfl, zy⟩) za ?_
   refine pure_ (i := 6) (N := some 19) #[true, true, true, true, true, true, true, false] rfl rfl (any_of HT_.out (by kernel_rfl)) (fun _ _ _ h => h) (Or.inl ⟨by rfl, zy⟩) za ?_
   refine one_ (i := 7) (N := none) #[true, true, true, true, true, true, true, true] rfl rfl (one_of HT_.out (by kernel_rfl)) (by decide) (fun K hK => ?_)
   have hs9 : w8.cell? ⟨gb235, 0, none⟩ = some (.int .i64 0) := (blk_cell BK235.out 0).trans rfl
   have hfs9 := blk_frozen BK235.out 0
   have hs10 : w8.cell? ⟨gb235, 1, none⟩ = some (.int .i64 0) := (blk_cell BK235.out 1).trans rfl
   have hfs10 := blk_frozen BK235.out 1
   refine skip_ (w1 := ?_) (by rfl) rfl ?_ ?_
   rotate_left
   · go_simp
     rfl
   refine hK.out _ _ trivial (fun hHeld => ?_)
   clear hK K
   refine done_ (done_of HT_.out (by kernel_rfl)) ?_
   try go_wp2
   refine bodyPost_ret (results_cell_row rfl _ _ gb235 43 #[.int .i64 (wrap64 (Int.tdiv a0 (wrap64 (-t236)))), .int .i64 (wrap64 (Int.tdiv a1 (wrap64 (-t236))))] (0, 0) _ rfl (by (with_reducible repeat (first | refine blk_drewN ?_ _ | refine blk_drew ?_ | refine blk_alloc ?_ _)); refine blk_put (cs := #[.int .i64 (wrap64 (Int.tdiv a0 (wrap64 (-t236)))), .int .i64 0]) ?_ 1 _ rfl; (with_reducible repeat (first | refine blk_drewN ?_ _ | refine blk_drew ?_ | refine blk_alloc ?_ _)); refine blk_put (cs := #[.int .i64 0, .int .i64 0]) ?_ 0 _ rfl; (with_reducible repeat (first | refine blk_drewN ?_ _ | refine blk_drew ?_ | refine blk_alloc ?_ _)); exact BK235.out) Try.underlying43 rfl (by kernel_rfl)) rfl ?_
   exact ⟨zs, zb1 HB.out GE235.out⟩
 rw [if_neg c4] at H
 have c4b0 : decide (a1 < 0) = false := decide_eq_false c4
 clear c4
 by_cases c11 : t236 = 0
 · rw [if_pos c11] at H
   exact absurd H (by simp)
 rw [if_neg c11] at H
 have c11b0 : (t236 == 0) = false := beq_eq_false_iff_ne.mpr c11
 have c11b1 : (t236 != 0) = true := bne_iff_ne.mpr c11
 simp only [Option.some.injEq, Prod.mk.injEq] at H
 obtain ⟨rfl, rfl⟩ := H
 go_enter Try.func62, Try.ntmps62
 try go_wp2_with (first | ((with_reducible refine gate_dst (N := 4) rfl ?_); refine box_event ?hg (N := 4) ?hd (cs := #[.int .i64 0, .int .i64 0]) (t := 43) ?hr ?_; (case hd => rfl); (case hg => rfl); (case hr => first | (go_simp; done) | (go_simp; rfl)); intro gb235 hg w12 hbox hb; refine up4 (below_step (zb HB.out) hb) (hbox) ((by rw [hg]; exact (below_size (zb HB.out)) : w.heap.size ≤ gb235)) ((by rw [hg]; exact (below_size (zb HB.out)) : w.heap.size ≤ gb235)) ?_; clear HB; intro HB BK235 GW235 GE235; clear hb hbox hg) | ((with_reducible refine gate_callee (f := 68) rfl ?_); refine goesL_ (some 8) rfl rfl Try.func68 (by kernel_rfl) rfl #[.int .i64 a0, .int .i64 a1] rfl zr ?_; (with_reducible refine (impl_divisor.calls k a0 a1 t236 _ A3.out).mono ?_); rintro e w13 ⟨rfl, hb⟩; refine ⟨_, rfl, ?_⟩; refine up2 (blk_below (g := gb235) (o := .cells #[.int .i64 0, .int .i64 0] 43 (0, 0)) (zq BK235.out) hb) (below_step (zb1 HB.out GE235.out) hb) ?_; clear BK235 HB; intro BK235 HB; (try clear hb); (try clear hb2); (try clear hk); (try clear hi)))
 refine up2 (blk_drew BK235.out) (below_drew1 HB.out) ?_
 clear BK235 HB
 intro BK235 HB
 refine start_ (n := 8) (S := fun w' => True) (ds := []) #[false, false, false, false, false, false, false, false] (by kernel_rfl) rfl rfl trivial (fun hHeld => ?_); refine with_tabW impl_fraction.tab4 impl_fraction.bits4 (fun HT_ HW_ => ?_)
 generalize w13.drew = w14 at BK235 HB hHeld ⊢
 refine pure_ (i := 0) (N := some 13) #[true, false, false, false, false, false, false, false] rfl rfl (any_of HT_.out (by kernel_rfl)) (fun _ _ _ h => h) (Or.inl ⟨by rfl, zy⟩) za ?_
 refine pure_ (i := 1) (N := some 14) #[true, true, false, false, false, false, false, false] rfl rfl (any_of HT_.out (by kernel_rfl)) (fun _ _ _ h => h) (Or.inl ⟨by rfl, zy⟩) za ?_
 refine pure_ (i := 2) (N := some 15) #[true, true, true, false, false, false, false, false] rfl rfl (any_of HT_.out (by kernel_rfl)) (fun _ _ _ h => h) (Or.inl ⟨by rfl, zy⟩) za ?_
 refine pure_ (i := 3) (N := some 16) #[true, true, true, true, false, false, false, false] rfl rfl (any_of HT_.out (by kernel_rfl)) (fun _ _ _ h => h) (Or.inl ⟨by rfl, zy⟩) za ?_
 refine pure_ (i := 4) (N := some 17) #[true, true, true, true, true, false, false, false] rfl rfl (any_of HT_.out (by kernel_rfl)) (fun _ _ _ h => h) (Or.inl ⟨by rfl, zy⟩) za ?_
 refine pure_ (i := 5) (N := some 18) #[true, true, true, true, true, true, false, false] rfl rfl (any_of HT_.out (by kernel_rfl)) (fun _ _ _ h => h) (Or.inl ⟨by rfl, zy⟩) za ?_
 refine pure_ (i := 6) (N := some 19) #[true, true, true, true, true, true, true, false] rfl rfl (any_of HT_.out (by kernel_rfl)) (fun _ _ _ h => h) (Or.inl ⟨by rfl, zy⟩) za ?_
 refine one_ (i := 7) (N := none) #[true, true, true, true, true, true, true, true] rfl rfl (one_of HT_.out (by kernel_rfl)) (by decide) (fun K hK => ?_)
 have hs15 : w14.cell? ⟨gb235, 0, none⟩ = some (.int .i64 0) := (blk_cell BK235.out 0).trans rfl
 have hfs15 := blk_frozen BK235.out 0
 have hs16 : w14.cell? ⟨gb235, 1, none⟩ = some (.int .i64 0) := (blk_cell BK235.out 1).trans rfl
 have hfs16 := blk_frozen BK235.out 1
 refine skip_ (w1 := ?_) (by rfl) rfl ?_ ?_
 rotate_left
 · go_simp
   rfl
 refine hK.out _ _ trivial (fun hHeld => ?_)
 clear hK K
 refine done_ (done_of HT_.out (by kernel_rfl)) ?_
 try go_wp2
 refine bodyPost_ret (results_cell_row rfl _ _ gb235 43 #[.int .i64 (wrap64 (Int.tdiv a0 t236)), .int .i64 (wrap64 (Int.tdiv a1 t236))] (0, 0) _ rfl (by (with_reducible repeat (first | refine blk_drewN ?_ _ | refine blk_drew ?_ | refine blk_alloc ?_ _)); refine blk_put (cs := #[.int .i64 (wrap64 (Int.tdiv a0 t236)), .int .i64 0]) ?_ 1 _ rfl; (with_reducible repeat (first | refine blk_drewN ?_ _ | refine blk_drew ?_ | refine blk_alloc ?_ _)); refine blk_put (cs := #[.int .i64 0, .int .i64 0]) ?_ 0 _ rfl; (with_reducible repeat (first | refine blk_drewN ?_ _ | refine blk_drew ?_ | refine blk_alloc ?_ _)); exact BK235.out) Try.underlying43 rfl (by kernel_rfl)) rfl ?_
 exact ⟨zs, zb1 HB.out GE235.out⟩

/-! ### impl_Yarn_count: function 43 -/
def impl_Yarn_count.f (k : Nat) (a0_0 : Int) (a0_1 : Int) (a0_2 : Int) : Option (Int × Int) := (impl_fraction.f k (wrap64 (a0_0)) (wrap64 (a0_2))).bind fun bt239 => (some (bt239.1, bt239.2))
theorem impl_Yarn_count.mono : ∀ a0 a1 a2 k, LeO (impl_Yarn_count.f k a0 a1 a2) (impl_Yarn_count.f (k + 1) a0 a1 a2) := by
  intro a0 a1 a2 k
  unfold impl_Yarn_count.f
  repeat' first
      | (with_reducible exact impl_fraction.mono _ _ _)
      | (with_reducible exact LeO.refl _)
      | (with_reducible exact LeO.none _)
      | (with_reducible refine LeO.ite ?_ ?_)
      | (with_reducible refine LeO.bind ?_ (fun _ => ?_))
      | (with_reducible refine allG_mono _ (fun _ => ?_))
      | (with_reducible refine idxG_mono _ (fun _ => ?_))
      | exact impl_fraction.mono _ _ _
      | exact LeO.none _
      | refine LeO.ite ?_ ?_
      | refine LeO.bind ?_ (fun _ => ?_)
set_option maxHeartbeats 8000000 in
set_option maxRecDepth 100000 in
theorem impl_Yarn_count.calls (k : Nat) (a0_0 : Int) (a0_1 : Int) (a0_2 : Int) (r1 : Int) (r2 : Int) (w : World) (h : impl_Yarn_count.f k a0_0 a0_1 a0_2 = some (r1, r2)) :
    Calls Try.prog 43 #[.agg #[.int .i16 a0_0, .int .i16 a0_1, .int .i16 a0_2]] w fun e w' => e = .returned (.agg #[.int .i64 r1, .int .i64 r2]) ∧ Below w.heap.size w w' := by
 have hu33 := Try.underlying33
 have hu43 := Try.underlying43
 have HB := Aside0.mk (Below.refl w.heap.size w)
 have H : ((impl_fraction.f k (wrap64 (a0_0)) (wrap64 (a0_2))).bind fun bt239 => (some (bt239.1, bt239.2))) = some (r1, r2) := h
 clear h
 replace H := Option.bind_eq_some_iff.mp H
 obtain ⟨⟨t239, t240⟩, A20, H⟩ := H
 replace H : (some (t239, t240)) = some (r1, r2) := H
 have A2 := Aside0.mk A20
 clear A20
 simp only [Option.some.injEq, Prod.mk.injEq] at H
 obtain ⟨rfl, rfl⟩ := H
 go_enter Try.func43, Try.ntmps43
 go_wp2_with (first | ((with_reducible refine gate_dst (N := 1) rfl ?_); refine box_event ?hg (N := 1) ?hd (cs := #[.int .i16 a0_0, .int .i16 a0_1, .int .i16 a0_2]) (t := 33) ?hr ?_; (case hd => rfl); (case hg => rfl); (case hr => first | (go_simp; done) | (go_simp; rfl)); intro gb237 hg w3 hbox hb; refine up4 (below_step (zb HB.out) hb) (hbox) ((by rw [hg]; exact (below_size (zb HB.out)) : w.heap.size ≤ gb237)) ((by rw [hg]; exact (below_size (zb HB.out)) : w.heap.size ≤ gb237)) ?_; clear HB; intro HB BK237 GW237 GE237; clear hb hbox hg) | ((with_reducible refine gate_dst (N := 2) rfl ?_); refine box_event ?hg (N := 2) ?hd (cs := #[.int .i64 0, .int .i64 0]) (t := 43) ?hr ?_; (case hd => rfl); (case hg => rfl); (case hr => first | (go_simp; done) | (go_simp; rfl)); intro gb238 hg w4 hbox hb; refine up7 (blk_below (g := gb237) (o := .cells #[.int .i16 a0_0, .int .i16 a0_1, .int .i16 a0_2] 33 (0, 0)) (zq BK237.out) hb) (below_step (zb1 HB.out GE237.out) hb) (hbox) ((by rw [hg]; exact (below_size (zb1 HB.out GE237.out)) : w.heap.size ≤ gb238)) ((by rw [hg]; exact (below_size (zb1 HB.out GE237.out)) : w.heap.size ≤ gb238)) ((by rw [hg]; exact Nat.ne_of_lt (blk_lt (g := gb237) (o := .cells #[.int .i16 a0_0, .int .i16 a0_1, .int .i16 a0_2] 33 (0, 0)) (zq BK237.out)) : gb237 ≠ gb238)) ((by rw [hg]; exact Nat.ne_of_gt (blk_lt (g := gb237) (o := .cells #[.int .i16 a0_0, .int .i16 a0_1, .int .i16 a0_2] 33 (0, 0)) (zq BK237.out)) : gb238 ≠ gb237)) ?_; clear BK237 HB; intro BK237 HB BK238 GW238 GE238 NB237_238 NB238_237; clear hb hbox hg; have hnb5 := NB237_238.out; have hnc5 := NB238_237.out; have hcz6_0 : w4.cell? ⟨gb237, 0, none⟩ = some (.int .i16 a0_0) := (blk_cell BK237.out 0).trans rfl; have hcz6_1 : w4.cell? ⟨gb237, 1, none⟩ = some (.int .i16 a0_1) := (blk_cell BK237.out 1).trans rfl; have hcz6_2 : w4.cell? ⟨gb237, 2, none⟩ = some (.int .i16 a0_2) := (blk_cell BK237.out 2).trans rfl; have hfz6_0 := blk_frozen BK237.out 0; have hfz6_1 := blk_frozen BK237.out 1; have hfz6_2 := blk_frozen BK237.out 2) | ((with_reducible refine gate_callee (f := 62) rfl ?_); refine goesL_ (some 9) rfl rfl Try.func62 (by kernel_rfl) rfl #[.int .i64 (wrap64 (a0_0)), .int .i64 (wrap64 (a0_2))] rfl zr ?_; (with_reducible refine (impl_fraction.calls k (wrap64 (a0_0)) (wrap64 (a0_2)) t239 t240 _ A2.out).mono ?_); rintro e w7 ⟨rfl, hb⟩; refine ⟨_, rfl, ?_⟩; refine up3 (blk_below (g := gb237) (o := .cells #[.int .i16 a0_0, .int .i16 a0_1, .int .i16 a0_2] 33 (0, 0)) (zq BK237.out) hb) (blk_below (g := gb238) (o := .cells #[.int .i64 0, .int .i64 0] 43 (0, 0)) (zq BK238.out) hb) (below_step (zb2 HB.out GE237.out GE238.out) hb) ?_; clear BK237 BK238 HB; intro BK237 BK238 HB; (try clear hb); (try clear hb2); (try clear hk); (try clear hi); have hcz8_0 : w7.cell? ⟨gb238, 0, none⟩ = some (.int .i64 0) := (blk_cell BK238.out 0).trans rfl; have hcz8_1 : w7.cell? ⟨gb238, 1, none⟩ = some (.int .i64 0) := (blk_cell BK238.out 1).trans rfl; have hfz8_0 := blk_frozen BK238.out 0; have hfz8_1 := blk_frozen BK238.out 1))
 refine bodyPost_ret (results_cell_row rfl _ _ gb238 43 #[.int .i64 t239, .int .i64 t240] (0, 0) _ rfl (by (with_reducible repeat (first | refine blk_drewN ?_ _ | refine blk_drew ?_ | refine blk_alloc ?_ _)); refine blk_put (cs := #[.int .i64 t239, .int .i64 0]) ?_ 1 _ rfl; (with_reducible repeat (first | refine blk_drewN ?_ _ | refine blk_drew ?_ | refine blk_alloc ?_ _)); refine blk_put (cs := #[.int .i64 0, .int .i64 0]) ?_ 0 _ rfl; (with_reducible repeat (first | refine blk_drewN ?_ _ | refine blk_drew ?_ | refine blk_alloc ?_ _)); exact BK238.out) Try.underlying43 rfl (by kernel_rfl)) rfl ?_
 exact ⟨zs, zb2 HB.out GE237.out GE238.out⟩

end Go.Proofs.Ythfanjdbemoaaaa.XFnPlies
