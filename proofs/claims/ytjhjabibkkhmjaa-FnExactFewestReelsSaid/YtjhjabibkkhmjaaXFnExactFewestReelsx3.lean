/- The functions that the law FnExactFewestReels reaches: each as a Lean function, and that its call does what that function says; no conditions. -/
import Derived.Test.YtjhjabibkkhmjaaXFnExactFewestReelsx0
import Derived.Test.YtjhjabibkkhmjaaXFnExactFewestReelsx1
import Derived.Test.YtjhjabibkkhmjaaXFnExactFewestReelsx2
namespace Go.Proofs.Ytjhjabibkkhmjaa.XFnExactFewestReels
open Go.RowKit Go.Proofs.YtjhjabibkkhmjaaW.PrintWords Go.Proofs.YtjhjabibkkhmjaaW.PrintLast Go.Proofs.YtjhjabibkkhmjaaW.PrintMore
attribute [local go_sem] max2_int min2_int max_two min_two max_three min_three max_four min_four   -- for this text's walks alone
set_option linter.unusedVariables false
set_option linter.unusedSimpArgs false

/-! ### spec_l04Try: function 120 -/
mutual
/-- Winds the next strand onto each reel: what is answered, the reels, the tries. -/
def spec_l04Try.f (m0 m1 m2 m3 m4 m5 hold : Int) (l : List S159) (budget : Int) : Nat → Int → Int → List Int → Int → Option (Int × List Int × Int)
  | 0, _, _, _, _ => none
  | k + 1, used, most, reels, tries => if reels.length = l.length then some (1, reels, tries) else spec_l04Try.l0 m0 m1 m2 m3 m4 m5 hold l budget k used most reels.length 0 reels tries
def spec_l04Try.l0 (m0 m1 m2 m3 m4 m5 hold : Int) (l : List S159) (budget : Int) : Nat → Int → Int → Nat → Int → List Int → Int → Option (Int × List Int × Int)
  | 0, _, _, _, _, _, _ => none
  | k + 1, used, most, n, reel, reels, tries =>
    if reel ≤ used ∧ reel < most then
      (if n < l.length ∧ reels.length ≤ 1000 ∧ l.length ≤ 1000 then
        (spec_l04With.f k l reels reel).bind fun row =>
          if row.length ≤ 1000 then
            (spec_l04On.f k m0 m1 m2 m3 m4 m5 hold (row ++ [rd_T159 l (n : Int)])).bind fun t =>
              if t = false then spec_l04Try.l0 m0 m1 m2 m3 m4 m5 hold l budget k used most n (wrap64 (reel + 1)) reels tries
              else if tries = budget then some (-1, reels, tries)
              else (spec_l00Max.f used (wrap64 (reel + 1))).bind fun u => (spec_l04Try.f m0 m1 m2 m3 m4 m5 hold l budget k u most (reels ++ [reel]) (wrap64 (tries + 1))).bind fun r =>
                if r.1 = 0 then (if n ≤ r.2.1.length then spec_l04Try.l0 m0 m1 m2 m3 m4 m5 hold l budget k used most n (wrap64 (reel + 1)) (r.2.1.take n) r.2.2 else none)
                else some r
          else none
      else none)
    else some (0, reels, tries)
end
theorem spec_l04Try.mono_l (m0 m1 m2 m3 m4 m5 hold : Int) (l : List S159) (budget : Int) : ∀ k, (∀ a b c d, LeO (spec_l04Try.f m0 m1 m2 m3 m4 m5 hold l budget k a b c d) (spec_l04Try.f m0 m1 m2 m3 m4 m5 hold l budget (k + 1) a b c d)) ∧ (∀ a b n x c d, LeO (spec_l04Try.l0 m0 m1 m2 m3 m4 m5 hold l budget k a b n x c d) (spec_l04Try.l0 m0 m1 m2 m3 m4 m5 hold l budget (k + 1) a b n x c d))
  | 0 => ⟨fun _ _ _ _ r h => by simp [spec_l04Try.f] at h, fun _ _ _ _ _ _ r h => by simp [spec_l04Try.l0] at h⟩
  | k + 1 => by
    obtain ⟨ih1, ih2⟩ := spec_l04Try.mono_l m0 m1 m2 m3 m4 m5 hold l budget k
    constructor
    · intro a b c d
      rw [spec_l04Try.f, spec_l04Try.f]
      repeat' first
        | exact ih2 _ _ _ _ _ _
        | (with_reducible exact LeO.refl _)
        | (with_reducible refine LeO.ite ?_ ?_)
    · intro a b n x c d
      rw [spec_l04Try.l0, spec_l04Try.l0]
      repeat' first
        | exact ih1 _ _ _ _
        | exact ih2 _ _ _ _ _ _
        | exact spec_l04With.mono _ _ _ _
        | exact spec_l04On.mono _ _ _ _ _ _ _ _ _
        | (with_reducible exact LeO.refl _)
        | (with_reducible refine LeO.ite ?_ ?_)
        | (with_reducible refine LeO.bind ?_ (fun _ => ?_))
theorem spec_l04Try.info : (Try.prog.info? 2).map (fun i => (i.zero, i.size, i.bytes)) = some (some (.int .i64 0), 1, 8) := by kernel_rfl
theorem spec_l04Try.infoS : (Try.prog.info? 159).map (fun i => (i.zero, i.size, i.bytes)) = some (some (.agg #[(.int .i16 0), (.int .u8 0)]), 2, 4) := by kernel_rfl
/-- The search's variable. -/
structure spec_l04Try.Inv (w W : World) (gs gm : Nat) (hold : Int) (A0 : Option Addr) (c0 : Nat) (l : List S159) (budget : Int) (reels : List Int) (tries : Int) (vR : Value) : Prop where
  b : Below w.heap.size w W
  lo : w.heap.size ≤ gs
  h : W.heap[gs]? = some (.cells #[.pointer (some ⟨gm, 0, none⟩), .int .i64 hold, .slice A0 l.length c0, vR, .int .i64 budget, .int .i64 tries] 156 (0, 0))
  rr : Kd.R (Kd.int .i64) 2 W w.heap.size (fun _ => True) vR reels
section
variable {w W W' : World} {gs gm : Nat} {hold : Int} {A0 : Option Addr} {c0 : Nat} {l : List S159} {budget : Int} {reels : List Int} {tries : Int} {vR : Value}
theorem spec_l04Try.Inv.next (h : spec_l04Try.Inv w W gs gm hold A0 c0 l budget reels tries vR) (hb : Below W.heap.size W W') : spec_l04Try.Inv w W' gs gm hold A0 c0 l budget reels tries vR :=
  ⟨below_then h.b h.b.size hb, h.lo, blk_below h.h hb, Kd.R_below h.rr hb⟩
theorem spec_l04Try.Inv.setT (h : spec_l04Try.Inv w W gs gm hold A0 c0 l budget reels tries vR) (x : Int) : spec_l04Try.Inv w (W.setCell ⟨gs, 5, none⟩ (.int .i64 x)) gs gm hold A0 c0 l budget reels x vR :=
  ⟨below_set h.b h.lo, h.lo, blk_put h.h 5 _ rfl, Kd.R_mono (Kd.R_far (p := ⟨gs, 5, none⟩) (Kd.R_types h.rr h.h (by decide)) (fun _ hk => hk.2) _) (fun _ _ => trivial)⟩
/-- Another row of reels is stored. -/
theorem spec_l04Try.Inv.setR {cs3 : Value} (hb : Below w.heap.size w W) (lo : w.heap.size ≤ gs) (h : W.heap[gs]? = some (.cells #[.pointer (some ⟨gm, 0, none⟩), .int .i64 hold, .slice A0 l.length c0, cs3, .int .i64 budget, .int .i64 tries] 156 (0, 0))) {v2 : Value} {xs : List Int} (hr : Kd.R (Kd.int .i64) 2 W w.heap.size (fun _ => True) v2 xs) : spec_l04Try.Inv w (W.setCell ⟨gs, 3, none⟩ v2) gs gm hold A0 c0 l budget xs tries v2 :=
  ⟨below_set hb lo, lo, blk_put h 3 _ rfl, Kd.R_mono (Kd.R_far (p := ⟨gs, 3, none⟩) (Kd.R_types hr h (by decide)) (fun _ hk => hk.2) _) (fun _ _ => trivial)⟩
end
theorem spec_l04Try.keepA {w : World} {o : Obj} {a : Addr} {v : Value} (h : w.cell? a = some v) : (w.alloc o).cell? a = some v :=
  (((Below.refl w.heap.size w).alloc (Nat.le_refl _) o).cell (World.block_lt_of_cell? w a h)).trans h
theorem spec_l04Try.keepD {w : World} {a : Addr} {v : Value} (h : w.cell? a = some v) : w.drew.cell? a = some v := h
theorem spec_l04Try.keepNN {w : World} {n : Nat} {a : Addr} {v : Value} (h : w.cell? a = some v) : (w.drewN n).cell? a = some v :=
  ((pw_below_drewN (Below.refl w.heap.size w) n).cell (World.block_lt_of_cell? w a h)).trans h
theorem spec_l04Try.keepB {w w' : World} (hb : Below w.heap.size w w') {a : Addr} {v : Value} (h : w.cell? a = some v) : w'.cell? a = some v := (hb.cell (World.block_lt_of_cell? w a h)).trans h
theorem spec_l04Try.top {w : World} {o : Obj} {g : Nat} (h : g = w.heap.size) : (w.alloc o).heap[g]? = some o := by
  subst h; exact blk_new w o
/-- A literal row of one number. -/
theorem spec_l04Try.litI {W : World} {h : Nat} (x : Int) (hh : W.heap[h]? = some (.cells #[.int .i64 x] 2 (0, 0))) : Kd.C (Kd.int .i64) W (some ⟨h, 0, none⟩) 1 [x] := by
  refine Kd.C_of_reads (d := (0 : Int)) (h1 := fun _ => rfl) ⟨rfl, by omega, fun _ => ⟨_, rfl, fun j hj => ?_⟩⟩
  obtain rfl : j = 0 := by omega
  simpa [Addr.add] using (blk_cell hh 0).trans (rfl : _ = some (Value.int .i64 x))
/-- A literal row of one strand. -/
theorem spec_l04Try.litS {W : World} {h : Nat} (y : S159) (hh : W.heap[h]? = some (.cells #[.int .i16 y.f0, .int .u8 y.f1] 159 (0, 0))) : Kd.C k159 W (some ⟨h, 0, none⟩) 1 [y] := by
  refine ⟨rfl, by omega, fun _ => ⟨_, rfl, fun j p hj => ?_⟩⟩
  obtain rfl : j = 0 := by
    rcases Nat.eq_zero_or_pos j with h0 | h0
    · exact h0
    · rw [List.getElem?_eq_none (by simp; omega)] at hj; cases hj
  obtain rfl : y = p := by simpa using hj
  refine ⟨_, rfl, k159_mk W y, fun i u hi => ?_⟩
  have e := fun i => blk_cell hh i
  match i, hi with
  | 0, hi => simp at hi; subst hi; simpa [Addr.add] using e 0
  | 1, hi => simp at hi; subst hi; simpa [Addr.add] using e 1
  | n + 2, hi => simp at hi
theorem spec_l04Try.app {ops : Array Oper} {o : Oper} {a : Act} {Q : Exit → Act → World → Prop} {Kc : Act → World → Prop} {w0 W : World} (hw : Region.wanted o (yielded ops a.tmps) = true) (s x : Operand) (ho : o.op = .call { callee := .builtin .append, args := #[s, x], argTypes := #[69, 69] }) (v : Value) (xs ys : List S159) (A : Option Addr) (m c : Nat) (hs : a.eval s = v) (hx : a.eval x = .slice A m c)
    (HO : Kd.R k159 159 W w0.heap.size (fun _ => True) v xs) (HR : Kd.C k159 W A m ys) (HB : Below w0.heap.size w0 W) (hl : xs.length + m ≤ 1048600)
    (h : ∀ v1 w1, Kd.R k159 159 w1 w0.heap.size (fun _ => True) v1 (xs ++ ys) → Below w0.heap.size w0 w1 → W.grownBy w1 v.ownBlock → Kc (a.put o.dst v1) w1) :
    if Region.wanted o (yielded ops a.tmps) = true then Oper.wp Try.prog o a W Kc Q else Kc (a.put o.dst undef) W := by
  refine Kd.R_append_rows_step k159 (w0 := w0) w0.heap.size hw s x 69 159 (.agg #[(.int .i16 0), (.int .u8 0)]) 4 ho Try.underlying69 spec_l04Try.infoS rfl (by decide) (by omega) v xs ys A m c (fun _ => True) (fun _ => False) hs hx HO HR (fun _ _ h => h) (fun _ h => h.elim) (fun _ _ => trivial) HB HB.size (by omega) ?_
  intro v1 w1 ho hb hg hat
  exact h v1 w1 ho hb hg
set_option maxHeartbeats 8000000 in
set_option maxRecDepth 100000 in
theorem spec_l04Try.calls (w : World) (gs gm : Nat) (m0 m1 m2 m3 m4 m5 hold : Int) (A0 : Option Addr) (c0 : Nat) (l : List S159) (budget : Int) (hM : w.heap[gm]? = some (.cells #[.int .u8 m0, .int .u8 m1, .int .u8 m2, .int .u8 m3, .int .u8 m4, .int .u8 m5] 67 (0, 0))) (hC : Kd.C k159 w A0 l.length l) (hc0 : l.length ≤ c0) : ∀ (k : Nat) (used most : Int) (reels : List Int) (tries : Int) (vR : Value) (W : World) (r1 : Int) (r2 : List Int) (r3 : Int), spec_l04Try.Inv w W gs gm hold A0 c0 l budget reels tries vR → spec_l04Try.f m0 m1 m2 m3 m4 m5 hold l budget k used most reels tries = some (r1, r2, r3) →
    Calls Try.prog 120 #[.pointer (some ⟨gs, 0, none⟩), .int .i64 used, .int .i64 most] W fun e w' => e = .returned (.int .i64 r1) ∧ ∃ vR2, spec_l04Try.Inv w w' gs gm hold A0 c0 l budget r2 r3 vR2 := by
  intro k
  have hu1 := Try.underlying156
  have hu2 := Try.underlying159
  have HM := Aside0.mk hM
  have HC := Aside0.mk hC
  have HC0 := Aside0.mk hc0
  clear hM hC hc0
  induction k using Nat.strongRecOn with
  | _ k IH =>
  intro used most reels tries vR W r1 r2 r3 hI h
  cases k with
  | zero => simp [spec_l04Try.f] at h
  | succ k =>
    have IHa := Aside0.mk IH
    clear IH
    rw [spec_l04Try.f] at h
    obtain ⟨AR, cR, eR⟩ := Kd.R_slice hI.rr
    subst eR
    have hq2 : W.cell? ⟨gs, 2, none⟩ = some (.slice A0 l.length c0) := (blk_cell hI.h 2).trans rfl
    have hq3 : W.cell? ⟨gs, 3, none⟩ = some (.slice AR reels.length cR) := (blk_cell hI.h 3).trans rfl
    have HI := Aside0.mk hI
    clear hI
    by_cases h1 : reels.length = l.length
    · rw [if_pos h1] at h
      have e := Option.some.inj h
      simp only [Prod.mk.injEq] at e
      obtain ⟨rfl, rfl, rfl⟩ := e
      have e1 : ((reels.length : Int) == (l.length : Int)) = true := beq_iff_eq.mpr (by omega)
      have HH1 := Aside0.mk h1
      clear h h1
      go_enter Try.func120, Try.ntmps120
      go_wp2
      go_ret
      exact ⟨rfl, _, HI.out⟩
    · rw [if_neg h1] at h
      have e1 : ((reels.length : Int) == (l.length : Int)) = false := beq_eq_false_iff_ne.mpr (by omega)
      have HL := Aside0.mk h
      clear h h1
      go_enter Try.func120, Try.ntmps120
      go_wp2
      clear e1 hq2 hq3
      go_loopg [8, 9] k (fun gq v8 _ W2 => ∃ (reel : Int) (reels1 : List Int) (tries1 : Int) (vR1 : Value), v8 = .int .i64 reel ∧ Aside0 (spec_l04Try.l0 m0 m1 m2 m3 m4 m5 hold l budget gq used most reels.length reel reels1 tries1 = some (r1, r2, r3)) ∧ Aside0 (gq ≤ k) ∧ Aside0 (spec_l04Try.Inv w W2 gs gm hold A0 c0 l budget reels1 tries1 vR1))
      case atStart => exact ⟨0, reels, tries, _, rfl, HL, ⟨Nat.le_refl _⟩, HI⟩
      case round =>
        clear HL HI
        obtain ⟨reel, reels1, tries1, vR1, rfl, HL, HK, HI⟩ := hrel
        cases gk with
        | zero => exact absurd HL.out (by simp [spec_l04Try.l0])
        | succ g =>
          have H := HL.out
          rw [spec_l04Try.l0] at H
          clear HL
          by_cases hx : reel ≤ used ∧ reel < most
          · rw [if_pos hx] at H
            by_cases hg : reels.length < l.length ∧ reels1.length ≤ 1000 ∧ l.length ≤ 1000
            · rw [if_pos hg] at H
              obtain ⟨g1, g2, g3⟩ := hg
              obtain ⟨row, hrow, H⟩ := Option.bind_eq_some_iff.mp H
              by_cases hrl : row.length ≤ 1000
              · rw [if_pos hrl] at H
                obtain ⟨t, hon, H⟩ := Option.bind_eq_some_iff.mp H
                obtain ⟨hx1, hx2⟩ := hx
                have d1 : decide (reel ≤ used) = true := decide_eq_true hx1
                have d2 : decide (reel < most) = true := decide_eq_true hx2
                have HW := Aside0.mk hrow
                have HRow := Aside0.mk hrl
                have HX := Aside0.mk H
                clear H hrow hrl
                obtain ⟨AR, cR, eR⟩ := Kd.R_slice HI.out.rr
                subst eR
                have hlC := Kd.C_below HC.out HI.out.b
                have HRc := Aside0.mk (Kd.R_reads' HI.out.rr).2.2
                have HRl := Aside0.mk (Kd.R_reads' HI.out.rr).2.1
                have HMr := Aside0.mk (blk_below HM.out HI.out.b)
                have G2 := Aside0.mk g2
                obtain ⟨adl, eal, hs0, hs1⟩ := at_T159 hlC (reels.length : Int) (by omega) (by omega)
                subst eal
                rw [Int.toNat_natCast] at hs0 hs1
                have HLc := Aside0.mk hlC
                obtain ⟨ys, hys⟩ : ∃ y_, rd_T159 l (reels.length : Int) = y_ := ⟨_, rfl⟩
                rw [hys] at hs0 hs1 hon
                obtain ⟨row8, hN8⟩ : ∃ r_, row ++ [ys] = r_ := ⟨_, rfl⟩
                rw [hN8] at hon
                have HN8 := Aside0.mk hN8
                have HOn := Aside0.mk hon
                clear hN8 hon hlC hys
                have hq0 : wr.cell? ⟨gs, 0, none⟩ = some (.pointer (some ⟨gm, 0, none⟩)) := (blk_cell HI.out.h 0).trans rfl
                have hq1 : wr.cell? ⟨gs, 1, none⟩ = some (.int .i64 hold) := (blk_cell HI.out.h 1).trans rfl
                have hq2 : wr.cell? ⟨gs, 2, none⟩ = some (.slice (some adl) l.length c0) := (blk_cell HI.out.h 2).trans rfl
                have hq3 : wr.cell? ⟨gs, 3, none⟩ = some (.slice AR reels1.length cR) := (blk_cell HI.out.h 3).trans rfl
                have qn0 : (0 : Int) ≤ (reels.length : Int) := by omega
                have qn1 : (reels.length : Int) < (l.length : Int) := by omega
                have qn2 : reels.length < l.length := g1
                have qn3 : ¬ l = [] := fun e => by subst e; simp at g1
                go_upto_region 7 with (fail)
                go_cut [8, 60] (fun v8 v60 wc => v8 = .int .i64 reel ∧ v60 = .bool (!t) ∧ Aside0 (Below wr.heap.size wr wc))
                case first  =>
                  go_region_held3 (fun w' => w'.cell? ⟨gs, 0, none⟩ = some (.pointer (some ⟨gm, 0, none⟩)) ∧ w'.cell? ⟨gs, 1, none⟩ = some (.int .i64 hold) ∧ w'.cell? ⟨gs, 2, none⟩ = some (.slice (some adl) l.length c0) ∧ w'.cell? ⟨gs, 3, none⟩ = some (.slice AR reels1.length cR) ∧ w'.cell? (adl.add (reels.length * 2)) = some (.int .i16 ys.f0) ∧ w'.cell? ⟨(adl.add (reels.length * 2)).block, (adl.add (reels.length * 2)).off + 1, none⟩ = some (.int .u8 ys.f1)) ((repeat' (with_reducible refine And.intro ?_ ?_)) <;> ((repeat (first | (with_reducible refine spec_l04Try.keepD ?_) | (with_reducible refine spec_l04Try.keepA ?_) | (with_reducible refine spec_l04Try.keepNN ?_))); (first | (with_reducible exact hq0) | (with_reducible exact hq1) | (with_reducible exact hq2) | (with_reducible exact hq3) | (with_reducible exact hs0) | (with_reducible exact hs1) | (with_reducible exact spec_l04Try.keepB HB59.out hq0) | (with_reducible exact spec_l04Try.keepB HB59.out hq1) | (with_reducible exact spec_l04Try.keepB HB59.out hq2) | (with_reducible exact spec_l04Try.keepB HB59.out hq3) | (with_reducible exact spec_l04Try.keepB HB59.out hs0) | (with_reducible exact spec_l04Try.keepB HB59.out hs1) | (with_reducible exact spec_l04Try.keepB HB58.out hq0) | (with_reducible exact spec_l04Try.keepB HB58.out hq1) | (with_reducible exact spec_l04Try.keepB HB58.out hq2) | (with_reducible exact spec_l04Try.keepB HB58.out hq3) | (with_reducible exact spec_l04Try.keepB HB58.out hs0) | (with_reducible exact spec_l04Try.keepB HB58.out hs1) | (with_reducible exact spec_l04Try.keepB HB49.out hq0) | (with_reducible exact spec_l04Try.keepB HB49.out hq1) | (with_reducible exact spec_l04Try.keepB HB49.out hq2) | (with_reducible exact spec_l04Try.keepB HB49.out hq3) | (with_reducible exact spec_l04Try.keepB HB49.out hs0) | (with_reducible exact spec_l04Try.keepB HB49.out hs1)))) (first | (go_at_call 169; refine (spec_l04With.calls g (some adl) c0 l AR cR reels1 reel row _ (Kd.C_below HLc.out (by (repeat (first | exact Below.refl _ _ | (with_reducible refine below_drew1 ?_) | (with_reducible refine below_alloc ?_ _) | (with_reducible refine pw_below_drewN ?_ _))))) HC0.out (Kd.C_below HRc.out (by (repeat (first | exact Below.refl _ _ | (with_reducible refine below_drew1 ?_) | (with_reducible refine below_alloc ?_ _) | (with_reducible refine pw_below_drewN ?_ _))))) HRl.out HW.out).mono ?_; rintro e w49 ⟨v49, rfl, ho49, hb49⟩; have HO49 := Aside0.mk (Kd.R_lower ho49 (below_size (w := wr) (by (repeat (first | exact Below.refl _ _ | (with_reducible refine below_drew1 ?_) | (with_reducible refine below_alloc ?_ _) | (with_reducible refine pw_below_drewN ?_ _)))))); have HG49 := Aside0.mk hb49; have HB49 := Aside0.mk (below_then (B := wr.heap.size) (w := wr) (by (repeat (first | exact Below.refl _ _ | (with_reducible refine below_drew1 ?_) | (with_reducible refine below_alloc ?_ _) | (with_reducible refine pw_below_drewN ?_ _)))) (below_size (w := wr) (by (repeat (first | exact Below.refl _ _ | (with_reducible refine below_drew1 ?_) | (with_reducible refine below_alloc ?_ _) | (with_reducible refine pw_below_drewN ?_ _))))) hb49); clear ho49 hb49) | (refine spec_l04Try.app (w0 := wr) ?hw (.tmp 49) (.tmp 57) rfl v49 row [ys] _ _ _ rfl rfl ?bO ?bR ?bB ?bL ?_; (case hw => rfl); (case bO => exact Kd.R_below HO49.out (by (repeat (first | exact Below.refl _ _ | (with_reducible refine below_drew1 ?_) | (with_reducible refine below_alloc ?_ _) | (with_reducible refine pw_below_drewN ?_ _))))); (case bR => (refine spec_l04Try.litS ys ?_); (first | ((repeat (first | exact spec_l04Try.top rfl | exact spec_l04Try.top (by simp) | (with_reducible refine blk_drew ?_) | (with_reducible refine blk_alloc ?_ _))); done) | ((repeat (with_reducible refine blk_drew ?_)); (refine blk_below ?_ HG49.out); ((repeat (first | exact spec_l04Try.top rfl | exact spec_l04Try.top (by simp) | (with_reducible refine blk_drew ?_) | (with_reducible refine blk_alloc ?_ _))); done)))); (case bB => exact (by (repeat (first | exact HB49.out | exact Below.refl _ _ | (with_reducible refine below_drew1 ?_) | (with_reducible refine below_alloc ?_ _) | (with_reducible refine pw_below_drewN ?_ _))))); (case bL => have := HRow.out; simp; omega); intro v58 w58 ho hb hg; rw [HN8.out] at ho; have HO58 := Aside0.mk ho; have HB58 := Aside0.mk hb; clear ho hb hg; obtain ⟨A58, c58, e58⟩ := Kd.R_slice HO58.out; subst e58) | (go_at_call 168; refine (spec_l04On.calls g gm m0 m1 m2 m3 m4 m5 hold A58 c58 row8 t _ (blk_below (blk_below HMr.out HB58.out) (by (repeat (first | exact Below.refl _ _ | (with_reducible refine below_drew1 ?_) | (with_reducible refine below_alloc ?_ _) | (with_reducible refine pw_below_drewN ?_ _))))) (Kd.C_below (Kd.R_reads' HO58.out).2.2 (by (repeat (first | exact Below.refl _ _ | (with_reducible refine below_drew1 ?_) | (with_reducible refine below_alloc ?_ _) | (with_reducible refine pw_below_drewN ?_ _))))) (Kd.R_reads' HO58.out).2.1 HOn.out).mono ?_; rintro e w59 ⟨rfl, hb59⟩; have HB59 := Aside0.mk (below_then (B := wr.heap.size) (w := wr) (by (repeat (first | exact HB58.out | exact Below.refl _ _ | (with_reducible refine below_drew1 ?_) | (with_reducible refine below_alloc ?_ _) | (with_reducible refine pw_below_drewN ?_ _)))) (below_size (w := wr) (by (repeat (first | exact HB58.out | exact Below.refl _ _ | (with_reducible refine below_drew1 ?_) | (with_reducible refine below_alloc ?_ _) | (with_reducible refine pw_below_drewN ?_ _))))) hb59); clear hb59))
                  all_goals
                    (try go_wp2)
                    go_meet
                    case rel => exact ⟨rfl, rfl, HB59⟩
                case rest  =>
                  obtain ⟨rfl, rfl, HBc⟩ := hcut
                  have HI7 := Aside0.mk (HI.out.next HBc.out)
                  clear hq0 hq1 hq2 hq3 hs0 hs1 HI HBc HRc HMr HLc HOn HW HN8 HRl
                  by_cases ht : t = false
                  · subst ht
                    have H := HX.out
                    rw [if_pos rfl] at H
                    have HL := Aside0.mk H
                    clear H HX
                    go_wp2
                    go_roundg g
                    case measure => omega
                    case rel => exact ⟨_, reels1, tries1, _, rfl, HL, ⟨by have := HK.out; omega⟩, HI7⟩
                  · obtain rfl : t = true := by simpa using ht
                    have H := HX.out
                    rw [if_neg (by decide)] at H
                    clear HX ht
                    have hb4 : wc.cell? ⟨gs, 4, none⟩ = some (.int .i64 budget) := (blk_cell HI7.out.h 4).trans rfl
                    have hb5 : wc.cell? ⟨gs, 5, none⟩ = some (.int .i64 tries1) := (blk_cell HI7.out.h 5).trans rfl
                    by_cases hbu : tries1 = budget
                    · rw [if_pos hbu] at H
                      have e := Option.some.inj H
                      simp only [Prod.mk.injEq] at e
                      obtain ⟨rfl, rfl, rfl⟩ := e
                      have eb : (tries1 == budget) = true := beq_iff_eq.mpr hbu
                      have HBU := Aside0.mk hbu
                      clear H hbu
                      go_upto_region 8 with (fail)
                      refine wp_region_still_lit (by kernel_rfl) (by kernel_rfl) ?_
                      repeat still_step
                      refine wpStill_nil ?_
                      change Exit.then _ _ _ _ (wc.drewN 1)
                      have HI8 := Aside0.mk (HI7.out.next (pw_below_drewN (Below.refl _ _) 1))
                      clear hb4 hb5 HI7
                      generalize wc.drewN 1 = W8 at *
                      go_wp2
                      go_ret
                      exact ⟨rfl, _, HI8.out⟩
                    · rw [if_neg hbu] at H
                      have eb : (tries1 == budget) = false := beq_eq_false_iff_ne.mpr hbu
                      obtain ⟨u, hu, H⟩ := Option.bind_eq_some_iff.mp H
                      obtain ⟨⟨q1, q2, q3⟩, hrec, H⟩ := Option.bind_eq_some_iff.mp H
                      simp only at H
                      obtain ⟨R84, hR84⟩ : ∃ r_, reels1 ++ [reel] = r_ := ⟨_, rfl⟩
                      rw [hR84] at hrec
                      have HR84 := Aside0.mk hR84
                      have HU := Aside0.mk hu
                      have HRec := Aside0.mk hrec
                      have HX := Aside0.mk H
                      clear H hu hrec hbu hR84
                      go_upto_region 8 with (fail)
                      refine wp_region_still_lit (by kernel_rfl) (by kernel_rfl) ?_
                      repeat still_step
                      refine wpStill_nil ?_
                      change Exit.then _ _ _ _ (wc.drewN 1)
                      have HI8 := Aside0.mk (HI7.out.next (pw_below_drewN (Below.refl _ _) 1))
                      clear hb4 hb5 HI7
                      generalize wc.drewN 1 = W8 at *
                      have hq5 : W8.cell? ⟨gs, 5, none⟩ = some (.int .i64 tries1) := (blk_cell HI8.out.h 5).trans rfl
                      have hf5 := blk_frozen HI8.out.h 5
                      go_upto_region 11 with (fail)
                      have HI10 := Aside0.mk (HI8.out.setT (wrap64 (tries1 + 1)))
                      clear hq5 hf5 HI8 eb
                      generalize W8.setCell ⟨gs, 5, none⟩ (.int .i64 (wrap64 (tries1 + 1))) = W10 at *
                      have hq3 : W10.cell? ⟨gs, 3, none⟩ = some (.slice AR reels1.length cR) := (blk_cell HI10.out.h 3).trans rfl
                      by_cases hq : q1 = 0
                      · subst hq
                        have H := HX.out
                        rw [if_pos rfl] at H
                        by_cases hl2 : reels.length ≤ q2.length
                        · rw [if_pos hl2] at H
                          have HL := Aside0.mk H
                          have HLL := Aside0.mk hl2
                          clear H HX hl2
                          go_wp2_with (first | ((with_reducible refine gate_builtin (b := .append) (xs := #[.tmp 81, .tmp 83]) rfl ?_); at_builtin; refine Kd.R_append_rows (Kd.int .i64) (w0 := w) w.heap.size rfl (.tmp 81) (.tmp 83) 25 2 (.int .i64 0) 8 rfl Try.underlying25 spec_l04Try.info rfl (by decide) (by omega) _ reels1 [reel] _ _ _ (fun _ => True) (fun _ => False) rfl rfl ?aO ?aR (fun _ _ h => h) (fun _ h => h.elim) ?aF ?aB ?aS ?aL ?_; (case aO => exact Kd.R_alloc HI10.out.rr _); (case aR => exact spec_l04Try.litI _ (blk_new _ _)); (case aF => exact (fun _ _ => trivial)); (case aB => exact below_alloc HI10.out.b _); (case aS => exact (below_alloc HI10.out.b _).size); (case aL => have := G2.out; simp; omega); intro v84 w11 ho hb hg hat; rw [HR84.out] at ho; have hblk := (hg.block gs (by have := blk_lt HI10.out.h; simp; omega) (Kd.R_ne HI10.out.rr HI10.out.h (by decide))).trans (blk_alloc HI10.out.h _); obtain ⟨A84, c84, e84⟩ := Kd.R_slice ho; subst e84; have HI12 := Aside0.mk (spec_l04Try.Inv.setR hb HI10.out.lo hblk ho); have hw3 := (blk_cell hblk 3).trans (rfl : _ = some (Value.slice AR reels1.length cR)); have hz3 := blk_frozen hblk 3; clear ho hb hg hat hblk) | (go_at_call 148; refine (spec_l00Max.calls used _ u _ HU.out).mono ?_; rintro e w' ⟨rfl, hd⟩; obtain ⟨nd, hnd⟩ := hd.out; subst hnd; clear hd) | (go_at_call 120; refine (IHa.out g (by have := HK.out; omega) u most R84 _ _ _ 0 q2 q3 (HI12.out.next (pw_below_drewN (Below.refl _ _) nd)) HRec.out).mono ?_; rintro e w13 ⟨rfl, vR2, hI13⟩; obtain ⟨A13, c13, e13⟩ := Kd.R_slice hI13.rr; subst e13; have hw13 : w13.cell? ⟨gs, 3, none⟩ = some (.slice A13 q2.length c13) := (blk_cell hI13.h 3).trans rfl; have hz13 := blk_frozen hI13.h 3; have HI13 := Aside0.mk hI13; clear hI13 HI12; obtain ⟨i0, hi0, _, _, _⟩ := info_parts spec_l04Try.info; have hcut := cut_to (P := Try.prog) 25 2 .i64 Try.underlying25 hi0 A13 q2.length c13 (reels.length : Int) (by omega) (by have := HLL.out; omega) (Kd.R_reads' HI13.out.rr).2.1; rw [Int.toNat_natCast] at hcut; clear hi0))
                          have HI15 := Aside0.mk (spec_l04Try.Inv.setR HI13.out.b HI13.out.lo HI13.out.h (Kd.R_take (m := reels.length) HI13.out.rr HLL.out))
                          go_roundg g
                          case measure => omega
                          case rel => exact ⟨_, q2.take reels.length, q3, _, rfl, HL, ⟨by have := HK.out; omega⟩, HI15⟩
                        · rw [if_neg hl2] at H; cases H
                      · have H := HX.out
                        rw [if_neg hq] at H
                        have e := Option.some.inj H
                        simp only [Prod.mk.injEq] at e
                        obtain ⟨rfl, rfl, rfl⟩ := e
                        have eq1 : (q1 != 0) = true := bne_iff_ne.mpr hq
                        have HQ := Aside0.mk hq
                        clear H HX hq
                        go_wp2_with (first | ((with_reducible refine gate_builtin (b := .append) (xs := #[.tmp 81, .tmp 83]) rfl ?_); at_builtin; refine Kd.R_append_rows (Kd.int .i64) (w0 := w) w.heap.size rfl (.tmp 81) (.tmp 83) 25 2 (.int .i64 0) 8 rfl Try.underlying25 spec_l04Try.info rfl (by decide) (by omega) _ reels1 [reel] _ _ _ (fun _ => True) (fun _ => False) rfl rfl ?aO ?aR (fun _ _ h => h) (fun _ h => h.elim) ?aF ?aB ?aS ?aL ?_; (case aO => exact Kd.R_alloc HI10.out.rr _); (case aR => exact spec_l04Try.litI _ (blk_new _ _)); (case aF => exact (fun _ _ => trivial)); (case aB => exact below_alloc HI10.out.b _); (case aS => exact (below_alloc HI10.out.b _).size); (case aL => have := G2.out; simp; omega); intro v84 w11 ho hb hg hat; rw [HR84.out] at ho; have hblk := (hg.block gs (by have := blk_lt HI10.out.h; simp; omega) (Kd.R_ne HI10.out.rr HI10.out.h (by decide))).trans (blk_alloc HI10.out.h _); obtain ⟨A84, c84, e84⟩ := Kd.R_slice ho; subst e84; have HI12 := Aside0.mk (spec_l04Try.Inv.setR hb HI10.out.lo hblk ho); have hw3 := (blk_cell hblk 3).trans (rfl : _ = some (Value.slice AR reels1.length cR)); have hz3 := blk_frozen hblk 3; clear ho hb hg hat hblk) | (go_at_call 148; refine (spec_l00Max.calls used _ u _ HU.out).mono ?_; rintro e w' ⟨rfl, hd⟩; obtain ⟨nd, hnd⟩ := hd.out; subst hnd; clear hd) | (go_at_call 120; refine (IHa.out g (by have := HK.out; omega) u most R84 _ _ _ q1 q2 q3 (HI12.out.next (pw_below_drewN (Below.refl _ _) nd)) HRec.out).mono ?_; rintro e w13 ⟨rfl, vR2, hI13⟩; obtain ⟨A13, c13, e13⟩ := Kd.R_slice hI13.rr; subst e13; have hw13 : w13.cell? ⟨gs, 3, none⟩ = some (.slice A13 q2.length c13) := (blk_cell hI13.h 3).trans rfl; have hz13 := blk_frozen hI13.h 3; have HI13 := Aside0.mk hI13; clear hI13 HI12))
                        go_ret
                        exact ⟨rfl, _, HI13.out⟩
              · rw [if_neg hrl] at H; cases H
            · rw [if_neg hg] at H; cases H
          · rw [if_neg hx] at H
            have e := Option.some.inj H
            simp only [Prod.mk.injEq] at e
            obtain ⟨rfl, rfl, rfl⟩ := e
            clear H
            by_cases hx1 : reel ≤ used
            · have hx2 : ¬ reel < most := fun z => hx ⟨hx1, z⟩
              have d1 : decide (reel ≤ used) = true := decide_eq_true hx1
              have d2 : decide (reel < most) = false := decide_eq_false hx2
              clear hx hx1 hx2
              go_wp2
              go_ret
              exact ⟨rfl, _, HI.out⟩
            · have d1 : decide (reel ≤ used) = false := decide_eq_false hx1
              clear hx hx1
              go_wp2
              go_ret
              exact ⟨rfl, _, HI.out⟩

/-! ### spec_FewestReels: function 44 -/
/-- One more reel, until all are wound. -/
def spec_FewestReels.l0 (m0 m1 m2 m3 m4 m5 hold : Int) (l : List S159) (budget : Int) : Nat → Int → List Int → Int → Option (List Int × Int × Int)
  | 0, _, _, _ => none
  | k + 1, most, reels, tries => (spec_l04Try.f m0 m1 m2 m3 m4 m5 hold l budget k 0 most reels tries).bind fun r => if r.1 = 1 then some (r.2.1, r.2.2, 0) else if r.1 = -1 then some ([], 0, 7) else spec_FewestReels.l0 m0 m1 m2 m3 m4 m5 hold l budget k (wrap64 (most + 1)) r.2.1 r.2.2
def spec_FewestReels.f (k : Nat) (m0 m1 m2 m3 m4 m5 : Int) (hold : Int) (l : List S159) (budget : Int) : Option (List Int × Int × Int) :=
  (spec_l04Hold.f hold).bind fun hh => (spec_l00In.f budget 0 20000).bind fun bb => (spec_l04Asked.f k m0 m1 m2 m3 m4 m5 l (hh && bb)).bind fun c => (spec_l04Alone.f k hold l).bind fun al =>
    if (if c = 0 ∧ al = false then (6 : Int) else c) = 0 then spec_FewestReels.l0 m0 m1 m2 m3 m4 m5 hold l budget k 0 [] 0
    else some ([], 0, if c = 0 ∧ al = false then (6 : Int) else c)
theorem spec_FewestReels.mono_l (m0 m1 m2 m3 m4 m5 hold : Int) (l : List S159) (budget : Int) : ∀ k a b c, LeO (spec_FewestReels.l0 m0 m1 m2 m3 m4 m5 hold l budget k a b c) (spec_FewestReels.l0 m0 m1 m2 m3 m4 m5 hold l budget (k + 1) a b c)
  | 0, _, _, _ => fun r h => by simp [spec_FewestReels.l0] at h
  | k + 1, a, b, c => by
    rw [spec_FewestReels.l0, spec_FewestReels.l0]
    repeat' first
      | exact (spec_l04Try.mono_l _ _ _ _ _ _ _ _ _ _).1 _ _ _ _
      | exact spec_FewestReels.mono_l m0 m1 m2 m3 m4 m5 hold l budget k _ _ _
      | (with_reducible exact LeO.refl _)
      | (with_reducible refine LeO.ite ?_ ?_)
      | (with_reducible refine LeO.bind ?_ (fun _ => ?_))
theorem spec_FewestReels.mono : ∀ a0 a1 a2 a3 a4 a5 a6 a7 a8 k, LeO (spec_FewestReels.f k a0 a1 a2 a3 a4 a5 a6 a7 a8) (spec_FewestReels.f (k + 1) a0 a1 a2 a3 a4 a5 a6 a7 a8) := by
  intro a0 a1 a2 a3 a4 a5 a6 a7 a8 k
  unfold spec_FewestReels.f
  repeat' first
    | exact spec_FewestReels.mono_l _ _ _ _ _ _ _ _ _ _ _ _ _
    | exact spec_l04Asked.mono _ _ _ _ _ _ _ _ _
    | exact spec_l04Alone.mono _ _ _
    | (with_reducible exact LeO.refl _)
    | (with_reducible refine LeO.ite ?_ ?_)
    | (with_reducible refine LeO.bind ?_ (fun _ => ?_))
theorem spec_FewestReels.lit0 {W : World} {base h : Nat} (hh : W.heap[h]? = some (.cells #[] 2 (0, 0))) (hb : base ≤ h) : Kd.R (Kd.int .i64) 2 W base (fun _ => True) (.slice (some ⟨h, 0, none⟩) 0 0) [] :=
  ⟨fun _ _ => trivial, [], ⟨rfl, .inr ⟨h, 0, #[], rfl, hb, hh, Nat.le_refl _, Nat.zero_le _, rfl, rfl⟩⟩, Reps.none _ _⟩
set_option maxHeartbeats 8000000 in
set_option maxRecDepth 100000 in
theorem spec_FewestReels.calls (k : Nat) (m0 m1 m2 m3 m4 m5 : Int) (hold : Int) (A2 : Option Addr) (c2 : Nat) (l : List S159) (budget : Int) (r1 : List Int) (r2 r3 : Int) (w : World) (hr2 : Kd.C k159 w A2 l.length l) (hc2 : l.length ≤ c2) (h : spec_FewestReels.f k m0 m1 m2 m3 m4 m5 hold l budget = some (r1, r2, r3)) :
    Calls Try.prog 44 #[.agg #[.int .u8 m0, .int .u8 m1, .int .u8 m2, .int .u8 m3, .int .u8 m4, .int .u8 m5], .int .i64 hold, .slice A2 l.length c2, .int .i64 budget] w fun e w' => ∃ v0_ : Value, e = .returned (.tuple #[v0_, .int .i64 r2, .int .i64 r3]) ∧ Kd.R (Kd.int .i64) 2 w' w.heap.size (fun _ => True) v0_ r1 ∧ Below w.heap.size w w' := by
  have hu1 := Try.underlying156
  unfold spec_FewestReels.f at h
  obtain ⟨hh, hhh, h⟩ := Option.bind_eq_some_iff.mp h
  obtain ⟨bb, hbb, h⟩ := Option.bind_eq_some_iff.mp h
  obtain ⟨c, hc, h⟩ := Option.bind_eq_some_iff.mp h
  obtain ⟨al, hal, h⟩ := Option.bind_eq_some_iff.mp h
  have HH := Aside0.mk hhh
  have HBb := Aside0.mk hbb
  have HC := Aside0.mk hc
  have HA := Aside0.mk hal
  have HR := Aside0.mk hr2
  have HC2 := Aside0.mk hc2
  have HX := Aside0.mk h
  clear hhh hbb hc hal hr2 hc2 h
  go_enter Try.func44, Try.ntmps44
  go_upto_region 1 with (first | ((with_reducible refine gate_dst (N := 4) rfl ?_); refine box_event ?hg (N := 4) ?hd (cs := #[.int .u8 m0, .int .u8 m1, .int .u8 m2, .int .u8 m3, .int .u8 m4, .int .u8 m5]) (t := 67) ?hr ?_; (case hd => rfl); (case hg => rfl); (case hr => first | (go_simp; done) | (go_simp; rfl)); intro gm hgm w1 hm1 hb1; have BM := Aside0.mk hm1; have B1 := Aside0.mk hb1; have GM := Aside0.mk (show w.heap.size ≤ gm from by rw [hgm]; exact Nat.le_refl _); clear hm1 hb1 hgm))
  go_cut [11] (fun v11 wc => v11 = .int .i64 c ∧ Aside0 (Below w1.heap.size w1 wc))
  case first  =>
    cases hh with
    | true =>
      go_wp2_with (first | (go_at_call 118; refine (spec_l04Hold.calls hold true _ HH.out).mono ?_; rintro e w' ⟨rfl, hd⟩; obtain ⟨nd1, hnd⟩ := hd.out; subst hnd; clear hd) | (go_at_call 85; refine (spec_l00In.calls budget 0 20000 bb _ HBb.out).mono ?_; rintro e w' ⟨rfl, hd⟩; obtain ⟨nd2, hnd⟩ := hd.out; subst hnd; clear hd) | (go_at_call 117; refine (spec_l04Asked.calls k gm m0 m1 m2 m3 m4 m5 A2 c2 l bb c _ (blk_below BM.out (by (repeat (first | exact Below.refl _ _ | (with_reducible refine pw_below_drewN ?_ _))))) (Kd.C_below (Kd.C_below HR.out B1.out) (by (repeat (first | exact Below.refl _ _ | (with_reducible refine pw_below_drewN ?_ _))))) HC2.out HC.out).mono ?_; rintro e w' ⟨rfl, hb⟩; have HB9 := Aside0.mk (below_then (B := w1.heap.size) (w := w1) (by (repeat (first | exact Below.refl _ _ | (with_reducible refine pw_below_drewN ?_ _)))) (below_size (w := w1) (by (repeat (first | exact Below.refl _ _ | (with_reducible refine pw_below_drewN ?_ _))))) hb); clear hb))
      go_meet
      case rel => exact ⟨rfl, HB9⟩
    | false =>
      go_wp2_with (first | (go_at_call 118; refine (spec_l04Hold.calls hold false _ HH.out).mono ?_; rintro e w' ⟨rfl, hd⟩; obtain ⟨nd1, hnd⟩ := hd.out; subst hnd; clear hd) | (go_at_call 117; refine (spec_l04Asked.calls k gm m0 m1 m2 m3 m4 m5 A2 c2 l false c _ (blk_below BM.out (by (repeat (first | exact Below.refl _ _ | (with_reducible refine pw_below_drewN ?_ _))))) (Kd.C_below (Kd.C_below HR.out B1.out) (by (repeat (first | exact Below.refl _ _ | (with_reducible refine pw_below_drewN ?_ _))))) HC2.out HC.out).mono ?_; rintro e w' ⟨rfl, hb⟩; have HB9 := Aside0.mk (below_then (B := w1.heap.size) (w := w1) (by (repeat (first | exact Below.refl _ _ | (with_reducible refine pw_below_drewN ?_ _)))) (below_size (w := w1) (by (repeat (first | exact Below.refl _ _ | (with_reducible refine pw_below_drewN ?_ _))))) hb); clear hb))
      go_meet
      case rel => exact ⟨rfl, HB9⟩
  case rest  =>
  clear HH HBb HC
  obtain ⟨rfl, HB2⟩ := hcut
  by_cases hc0 : c = 0
  · subst hc0
    have hz2 : ((0 : Int) != 0) = false := rfl
    cases al with
    | true =>
      have hX := HX.out
      rw [if_neg (show ¬ ((0 : Int) = 0 ∧ true = false) from fun z => by cases z.2), if_pos rfl] at hX
      clear HX
      have HX := Aside0.mk hX
      clear hX
      go_wp2_with (first | (go_at_call 119; refine (spec_l04Alone.calls k hold A2 c2 l true _ (Kd.C_below (Kd.C_below HR.out B1.out) HB2.out) HC2.out HA.out).mono ?_; rintro e w' ⟨rfl, hd⟩; have HB3 := Aside0.mk (show Below w1.heap.size w1 w' from by (obtain ⟨nd3, hnd⟩ := hd.out; subst hnd; exact pw_below_drewN HB2.out _)); clear hd HB2) | ((with_reducible refine gate_dst (N := 39) rfl ?_); refine box_event ?hg (N := 39) ?hd (cs := #[.pointer (some ⟨gm, 0, none⟩), .int .i64 hold, .slice A2 l.length c2, .slice (some ⟨w'.heap.size, 0, none⟩) 0 0, .int .i64 budget, .int .i64 0]) (t := 156) ?hr ?_; (case hd => rfl); (case hg => rfl); (case hr => first | (go_simp; done) | (go_simp; rfl)); intro gs hgs w5 hw5 hbb; have HI5 : Aside0 (spec_l04Try.Inv w1 w5 gs gm hold A2 c2 l budget [] 0 (.slice (some ⟨w'.heap.size, 0, none⟩) 0 0)) := ⟨below_then (below_alloc HB3.out _) (below_alloc HB3.out _).size hbb, by rw [hgs]; exact (below_alloc HB3.out _).size, hw5, Kd.R_below (spec_FewestReels.lit0 (spec_l04Try.top rfl) HB3.out.size) hbb⟩; clear hw5 hbb hgs))
      clear HB3
      go_loopg [13] k (fun gq v13 W2 => ∃ (most : Int) (reels : List Int) (tries : Int) (vR : Value), v13 = .int .i64 most ∧ Aside0 (spec_FewestReels.l0 m0 m1 m2 m3 m4 m5 hold l budget gq most reels tries = some (r1, r2, r3)) ∧ Aside0 (gq ≤ k) ∧ Aside0 (spec_l04Try.Inv w1 W2 gs gm hold A2 c2 l budget reels tries vR))
      case atStart => exact ⟨0, [], 0, _, rfl, HX, ⟨Nat.le_refl _⟩, HI5⟩
      case round =>
        clear HX HI5
        obtain ⟨most, reels, tries, vR, rfl, HL, HK, HI⟩ := hrel
        cases gk with
        | zero => exact absurd HL.out (by simp [spec_FewestReels.l0])
        | succ g =>
          have H := HL.out
          rw [spec_FewestReels.l0] at H
          clear HL
          obtain ⟨⟨q1, q2, q3⟩, hq, H⟩ := Option.bind_eq_some_iff.mp H
          simp only at H
          have HQ := Aside0.mk hq
          have HX := Aside0.mk H
          clear H hq
          by_cases h1 : q1 = 1
          · subst h1
            have H := HX.out
            rw [if_pos rfl] at H
            have e := Option.some.inj H
            simp only [Prod.mk.injEq] at e
            obtain ⟨rfl, rfl, rfl⟩ := e
            clear H HX
            go_wp2_with (first | (go_at_call 120; refine (spec_l04Try.calls w1 gs gm m0 m1 m2 m3 m4 m5 hold A2 c2 l budget BM.out (Kd.C_below HR.out B1.out) HC2.out g 0 most reels tries vR _ 1 q2 q3 HI.out HQ.out).mono ?_; rintro e w9 ⟨rfl, vR9, hI9⟩; obtain ⟨A9, c9, e9⟩ := Kd.R_slice hI9.rr; subst e9; have HI9 := Aside0.mk hI9; clear hI9))
            have hq3 : w9.cell? ⟨gs, 3, none⟩ = some (.slice A9 q2.length c9) := (blk_cell HI9.out.h 3).trans rfl
            have hq5 : w9.cell? ⟨gs, 5, none⟩ = some (.int .i64 q3) := (blk_cell HI9.out.h 5).trans rfl
            refine wp_region_still_lit (by kernel_rfl) (by kernel_rfl) ?_
            repeat still_step
            refine wpStill_nil ?_
            change Exit.then _ _ _ _ (w9.drewN 1)
            go_wp2
            go_ret3
            exact ⟨_, rfl, Kd.R_lower (Kd.R_drewN HI9.out.rr 1) B1.out.size, below_then B1.out B1.out.size (pw_below_drewN HI9.out.b 1)⟩
          · have h1b : (q1 == 1) = false := beq_eq_false_iff_ne.mpr h1
            by_cases h2 : q1 = -1
            · subst h2
              have H := HX.out
              rw [if_neg h1, if_pos rfl] at H
              have e := Option.some.inj H
              simp only [Prod.mk.injEq] at e
              obtain ⟨rfl, rfl, rfl⟩ := e
              clear H HX h1
              go_wp2_with (first | (go_at_call 120; refine (spec_l04Try.calls w1 gs gm m0 m1 m2 m3 m4 m5 hold A2 c2 l budget BM.out (Kd.C_below HR.out B1.out) HC2.out g 0 most reels tries vR _ (-1) q2 q3 HI.out HQ.out).mono ?_; rintro e w9 ⟨rfl, vR9, hI9⟩; obtain ⟨A9, c9, e9⟩ := Kd.R_slice hI9.rr; subst e9; have HI9 := Aside0.mk hI9; clear hI9))
              go_ret3
              exact ⟨_, rfl, spec_FewestReels.lit0 (spec_l04Try.top rfl) (Nat.le_trans B1.out.size HI9.out.b.size), below_alloc (below_then B1.out B1.out.size HI9.out.b) _⟩
            · have H := HX.out
              rw [if_neg h1, if_neg h2] at H
              have HL := Aside0.mk H
              have h2b : (q1 == -1) = false := beq_eq_false_iff_ne.mpr h2
              clear H HX h1 h2
              go_wp2_with (first | (go_at_call 120; refine (spec_l04Try.calls w1 gs gm m0 m1 m2 m3 m4 m5 hold A2 c2 l budget BM.out (Kd.C_below HR.out B1.out) HC2.out g 0 most reels tries vR _ q1 q2 q3 HI.out HQ.out).mono ?_; rintro e w9 ⟨rfl, vR9, hI9⟩; obtain ⟨A9, c9, e9⟩ := Kd.R_slice hI9.rr; subst e9; have HI9 := Aside0.mk hI9; clear hI9))
              go_roundg g
              case measure => omega
              case rel => exact ⟨wrap64 (most + 1), q2, q3, _, rfl, HL, ⟨by have := HK.out; omega⟩, HI9⟩
    | false =>
      have hX := HX.out
      rw [if_pos (show (0 : Int) = 0 ∧ false = false from ⟨rfl, rfl⟩), if_neg (by decide)] at hX
      have e := Option.some.inj hX
      simp only [Prod.mk.injEq] at e
      obtain ⟨rfl, rfl, rfl⟩ := e
      clear hX HX
      go_wp2_with (first | (go_at_call 119; refine (spec_l04Alone.calls k hold A2 c2 l false _ (Kd.C_below (Kd.C_below HR.out B1.out) HB2.out) HC2.out HA.out).mono ?_; rintro e w' ⟨rfl, hd⟩; have HB3 := Aside0.mk (show Below w1.heap.size w1 w' from by (obtain ⟨nd3, hnd⟩ := hd.out; subst hnd; exact pw_below_drewN HB2.out _)); clear hd HB2))
      go_ret3
      exact ⟨_, rfl, spec_FewestReels.lit0 (spec_l04Try.top rfl) (Nat.le_trans B1.out.size HB3.out.size), below_alloc (below_then B1.out B1.out.size HB3.out) _⟩
  · have hX := HX.out
    simp only [if_neg (show ¬ (c = 0 ∧ al = false) from fun z => hc0 z.1), if_neg hc0] at hX
    have e := Option.some.inj hX
    simp only [Prod.mk.injEq] at e
    obtain ⟨rfl, rfl, rfl⟩ := e
    have hz1 : (c == 0) = false := beq_eq_false_iff_ne.mpr hc0
    have hz2 : (c != 0) = true := bne_iff_ne.mpr hc0
    have HB3 := HB2
    clear hX HX
    go_wp2
    go_ret3
    exact ⟨_, rfl, spec_FewestReels.lit0 (spec_l04Try.top rfl) (Nat.le_trans B1.out.size HB3.out.size), below_alloc (below_then B1.out B1.out.size HB3.out) _⟩

/-! ### laws_toMeets: function 45 -/
/-- The same six numbers. -/
def laws_toMeets.f (a0_0 a0_1 a0_2 a0_3 a0_4 a0_5 : Int) : Option (Int × Int × Int × Int × Int × Int) := some (a0_0, a0_1, a0_2, a0_3, a0_4, a0_5)
@[reducible] def laws_toMeets.p (kk i : Nat) (x : Int) : Int := if i < kk then x else 0
set_option maxHeartbeats 8000000 in
set_option maxRecDepth 100000 in
theorem laws_toMeets.calls (a0_0 : Int) (a0_1 : Int) (a0_2 : Int) (a0_3 : Int) (a0_4 : Int) (a0_5 : Int) (r1 : Int) (r2 : Int) (r3 : Int) (r4 : Int) (r5 : Int) (r6 : Int) (w : World) (h : laws_toMeets.f a0_0 a0_1 a0_2 a0_3 a0_4 a0_5 = some (r1, r2, r3, r4, r5, r6)) :
    Calls Try.prog 45 #[.agg #[.int .u8 a0_0, .int .u8 a0_1, .int .u8 a0_2, .int .u8 a0_3, .int .u8 a0_4, .int .u8 a0_5]] w fun e w' => e = .returned (.agg #[.int .u8 r1, .int .u8 r2, .int .u8 r3, .int .u8 r4, .int .u8 r5, .int .u8 r6]) ∧ Below w.heap.size w w' := by
  simp only [laws_toMeets.f, Option.some.injEq, Prod.mk.injEq] at h
  obtain ⟨rfl, rfl, rfl, rfl, rfl, rfl⟩ := h
  have HB0 : Aside0 (Below w.heap.size w (((w.alloc (.cells #[.int .u8 a0_0, .int .u8 a0_1, .int .u8 a0_2, .int .u8 a0_3, .int .u8 a0_4, .int .u8 a0_5] 63)).alloc (.cells #[.int .u8 0, .int .u8 0, .int .u8 0, .int .u8 0, .int .u8 0, .int .u8 0] 67)).alloc (.cells #[.int .u8 0, .int .u8 0, .int .u8 0, .int .u8 0, .int .u8 0, .int .u8 0] 67))) := ⟨below_alloc (below_alloc (below_alloc (Below.refl _ w) _) _) _⟩
  have HG1 : Aside0 ((((w.alloc (.cells #[.int .u8 a0_0, .int .u8 a0_1, .int .u8 a0_2, .int .u8 a0_3, .int .u8 a0_4, .int .u8 a0_5] 63)).alloc (.cells #[.int .u8 0, .int .u8 0, .int .u8 0, .int .u8 0, .int .u8 0, .int .u8 0] 67)).alloc (.cells #[.int .u8 0, .int .u8 0, .int .u8 0, .int .u8 0, .int .u8 0, .int .u8 0] 67)).heap[w.heap.size]? = some (.cells #[.int .u8 a0_0, .int .u8 a0_1, .int .u8 a0_2, .int .u8 a0_3, .int .u8 a0_4, .int .u8 a0_5] 63 (0, 0))) := ⟨blk_alloc (blk_alloc (blk_new w _) _) _⟩
  have HG2 : Aside0 ((((w.alloc (.cells #[.int .u8 a0_0, .int .u8 a0_1, .int .u8 a0_2, .int .u8 a0_3, .int .u8 a0_4, .int .u8 a0_5] 63)).alloc (.cells #[.int .u8 0, .int .u8 0, .int .u8 0, .int .u8 0, .int .u8 0, .int .u8 0] 67)).alloc (.cells #[.int .u8 0, .int .u8 0, .int .u8 0, .int .u8 0, .int .u8 0, .int .u8 0] 67)).heap[w.heap.size + 1]? = some (.cells #[.int .u8 0, .int .u8 0, .int .u8 0, .int .u8 0, .int .u8 0, .int .u8 0] 67 (0, 0))) := ⟨by have z := blk_alloc (blk_new (w.alloc (.cells #[.int .u8 a0_0, .int .u8 a0_1, .int .u8 a0_2, .int .u8 a0_3, .int .u8 a0_4, .int .u8 a0_5] 63)) (.cells #[.int .u8 0, .int .u8 0, .int .u8 0, .int .u8 0, .int .u8 0, .int .u8 0] 67)) (.cells #[.int .u8 0, .int .u8 0, .int .u8 0, .int .u8 0, .int .u8 0, .int .u8 0] 67); simpa using z⟩
  have HG3 : Aside0 ((((w.alloc (.cells #[.int .u8 a0_0, .int .u8 a0_1, .int .u8 a0_2, .int .u8 a0_3, .int .u8 a0_4, .int .u8 a0_5] 63)).alloc (.cells #[.int .u8 0, .int .u8 0, .int .u8 0, .int .u8 0, .int .u8 0, .int .u8 0] 67)).alloc (.cells #[.int .u8 0, .int .u8 0, .int .u8 0, .int .u8 0, .int .u8 0, .int .u8 0] 67)).heap[w.heap.size + 1 + 1]? = some (.cells #[.int .u8 0, .int .u8 0, .int .u8 0, .int .u8 0, .int .u8 0, .int .u8 0] 67 (0, 0))) := ⟨by have z := blk_new ((w.alloc (.cells #[.int .u8 a0_0, .int .u8 a0_1, .int .u8 a0_2, .int .u8 a0_3, .int .u8 a0_4, .int .u8 a0_5] 63)).alloc (.cells #[.int .u8 0, .int .u8 0, .int .u8 0, .int .u8 0, .int .u8 0, .int .u8 0] 67)) (.cells #[.int .u8 0, .int .u8 0, .int .u8 0, .int .u8 0, .int .u8 0, .int .u8 0] 67); simpa using z⟩
  go_enter Try.func45, Try.ntmps45
  go_wp2
  generalize (((w.alloc (.cells #[.int .u8 a0_0, .int .u8 a0_1, .int .u8 a0_2, .int .u8 a0_3, .int .u8 a0_4, .int .u8 a0_5] 63)).alloc (.cells #[.int .u8 0, .int .u8 0, .int .u8 0, .int .u8 0, .int .u8 0, .int .u8 0] 67)).alloc (.cells #[.int .u8 0, .int .u8 0, .int .u8 0, .int .u8 0, .int .u8 0, .int .u8 0] 67)) = W0 at *
  go_loopg [4] 6 (fun gg v4 wr => ∃ kk : Nat, kk + gg = 6 ∧ v4 = .int .i64 (kk : Int) ∧ Aside0 (Below w.heap.size w wr) ∧ Aside0 (wr.heap[w.heap.size]? = some (.cells #[.int .u8 a0_0, .int .u8 a0_1, .int .u8 a0_2, .int .u8 a0_3, .int .u8 a0_4, .int .u8 a0_5] 63 (0, 0))) ∧ Aside0 (wr.heap[w.heap.size + 1]? = some (.cells #[.int .u8 0, .int .u8 0, .int .u8 0, .int .u8 0, .int .u8 0, .int .u8 0] 67 (0, 0))) ∧ Aside0 (wr.heap[w.heap.size + 1 + 1]? = some (.cells #[.int .u8 (laws_toMeets.p kk 0 a0_0), .int .u8 (laws_toMeets.p kk 1 a0_1), .int .u8 (laws_toMeets.p kk 2 a0_2), .int .u8 (laws_toMeets.p kk 3 a0_3), .int .u8 (laws_toMeets.p kk 4 a0_4), .int .u8 (laws_toMeets.p kk 5 a0_5)] 67 (0, 0))))
  case atStart => exact ⟨0, by omega, rfl, HB0, HG1, HG2, HG3⟩
  case round =>
    clear HB0 HG1 HG2 HG3
    obtain ⟨kk, hkk, rfl, HB, H1, H2, H3⟩ := hrel
    rcases (by omega : kk = 0 ∨ kk = 1 ∨ kk = 2 ∨ kk = 3 ∨ kk = 4 ∨ kk = 5 ∨ kk = 6) with rfl | rfl | rfl | rfl | rfl | rfl | rfl
    · -- round 0
      have hx : wr.cell? ⟨w.heap.size, 0, none⟩ = some (.int .u8 a0_0) := (blk_cell H1.out 0).trans rfl
      have hy : wr.cell? ⟨w.heap.size + 1 + 1, 0, none⟩ = some (.int .u8 0) := (blk_cell H3.out 0).trans rfl
      have hf := blk_frozen H3.out 0
      obtain rfl : gk = 5 + 1 := by omega
      go_wp2
      go_roundg 5
      case measure => omega
      case rel => exact ⟨1, by omega, rfl, ⟨below_set HB.out (by omega)⟩, ⟨blk_far H1.out (by show w.heap.size ≠ w.heap.size + 1 + 1; omega) _⟩, ⟨blk_far H2.out (by show w.heap.size + 1 ≠ w.heap.size + 1 + 1; omega) _⟩, ⟨blk_put H3.out 0 _ rfl⟩⟩
    · -- round 1
      have hx : wr.cell? ⟨w.heap.size, 1, none⟩ = some (.int .u8 a0_1) := (blk_cell H1.out 1).trans rfl
      have hy : wr.cell? ⟨w.heap.size + 1 + 1, 1, none⟩ = some (.int .u8 0) := (blk_cell H3.out 1).trans rfl
      have hf := blk_frozen H3.out 1
      obtain rfl : gk = 4 + 1 := by omega
      go_wp2
      go_roundg 4
      case measure => omega
      case rel => exact ⟨2, by omega, rfl, ⟨below_set HB.out (by omega)⟩, ⟨blk_far H1.out (by show w.heap.size ≠ w.heap.size + 1 + 1; omega) _⟩, ⟨blk_far H2.out (by show w.heap.size + 1 ≠ w.heap.size + 1 + 1; omega) _⟩, ⟨blk_put H3.out 1 _ rfl⟩⟩
    · -- round 2
      have hx : wr.cell? ⟨w.heap.size, 2, none⟩ = some (.int .u8 a0_2) := (blk_cell H1.out 2).trans rfl
      have hy : wr.cell? ⟨w.heap.size + 1 + 1, 2, none⟩ = some (.int .u8 0) := (blk_cell H3.out 2).trans rfl
      have hf := blk_frozen H3.out 2
      obtain rfl : gk = 3 + 1 := by omega
      go_wp2
      go_roundg 3
      case measure => omega
      case rel => exact ⟨3, by omega, rfl, ⟨below_set HB.out (by omega)⟩, ⟨blk_far H1.out (by show w.heap.size ≠ w.heap.size + 1 + 1; omega) _⟩, ⟨blk_far H2.out (by show w.heap.size + 1 ≠ w.heap.size + 1 + 1; omega) _⟩, ⟨blk_put H3.out 2 _ rfl⟩⟩
    · -- round 3
      have hx : wr.cell? ⟨w.heap.size, 3, none⟩ = some (.int .u8 a0_3) := (blk_cell H1.out 3).trans rfl
      have hy : wr.cell? ⟨w.heap.size + 1 + 1, 3, none⟩ = some (.int .u8 0) := (blk_cell H3.out 3).trans rfl
      have hf := blk_frozen H3.out 3
      obtain rfl : gk = 2 + 1 := by omega
      go_wp2
      go_roundg 2
      case measure => omega
      case rel => exact ⟨4, by omega, rfl, ⟨below_set HB.out (by omega)⟩, ⟨blk_far H1.out (by show w.heap.size ≠ w.heap.size + 1 + 1; omega) _⟩, ⟨blk_far H2.out (by show w.heap.size + 1 ≠ w.heap.size + 1 + 1; omega) _⟩, ⟨blk_put H3.out 3 _ rfl⟩⟩
    · -- round 4
      have hx : wr.cell? ⟨w.heap.size, 4, none⟩ = some (.int .u8 a0_4) := (blk_cell H1.out 4).trans rfl
      have hy : wr.cell? ⟨w.heap.size + 1 + 1, 4, none⟩ = some (.int .u8 0) := (blk_cell H3.out 4).trans rfl
      have hf := blk_frozen H3.out 4
      obtain rfl : gk = 1 + 1 := by omega
      go_wp2
      go_roundg 1
      case measure => omega
      case rel => exact ⟨5, by omega, rfl, ⟨below_set HB.out (by omega)⟩, ⟨blk_far H1.out (by show w.heap.size ≠ w.heap.size + 1 + 1; omega) _⟩, ⟨blk_far H2.out (by show w.heap.size + 1 ≠ w.heap.size + 1 + 1; omega) _⟩, ⟨blk_put H3.out 4 _ rfl⟩⟩
    · -- round 5
      have hx : wr.cell? ⟨w.heap.size, 5, none⟩ = some (.int .u8 a0_5) := (blk_cell H1.out 5).trans rfl
      have hy : wr.cell? ⟨w.heap.size + 1 + 1, 5, none⟩ = some (.int .u8 0) := (blk_cell H3.out 5).trans rfl
      have hf := blk_frozen H3.out 5
      obtain rfl : gk = 0 + 1 := by omega
      go_wp2
      go_roundg 0
      case measure => omega
      case rel => exact ⟨6, by omega, rfl, ⟨below_set HB.out (by omega)⟩, ⟨blk_far H1.out (by show w.heap.size ≠ w.heap.size + 1 + 1; omega) _⟩, ⟨blk_far H2.out (by show w.heap.size + 1 ≠ w.heap.size + 1 + 1; omega) _⟩, ⟨blk_put H3.out 5 _ rfl⟩⟩
    · have hx0 : wr.cell? ⟨w.heap.size + 1 + 1, 0, none⟩ = some (.int .u8 a0_0) := (blk_cell H3.out 0).trans rfl
      have hx1 : wr.cell? ⟨w.heap.size + 1 + 1, 1, none⟩ = some (.int .u8 a0_1) := (blk_cell H3.out 1).trans rfl
      have hx2 : wr.cell? ⟨w.heap.size + 1 + 1, 2, none⟩ = some (.int .u8 a0_2) := (blk_cell H3.out 2).trans rfl
      have hx3 : wr.cell? ⟨w.heap.size + 1 + 1, 3, none⟩ = some (.int .u8 a0_3) := (blk_cell H3.out 3).trans rfl
      have hx4 : wr.cell? ⟨w.heap.size + 1 + 1, 4, none⟩ = some (.int .u8 a0_4) := (blk_cell H3.out 4).trans rfl
      have hx5 : wr.cell? ⟨w.heap.size + 1 + 1, 5, none⟩ = some (.int .u8 a0_5) := (blk_cell H3.out 5).trans rfl
      have hz0 : wr.cell? ⟨w.heap.size + 1, 0, none⟩ = some (.int .u8 0) := (blk_cell H2.out 0).trans rfl
      have hz1 : wr.cell? ⟨w.heap.size + 1, 1, none⟩ = some (.int .u8 0) := (blk_cell H2.out 1).trans rfl
      have hz2 : wr.cell? ⟨w.heap.size + 1, 2, none⟩ = some (.int .u8 0) := (blk_cell H2.out 2).trans rfl
      have hz3 : wr.cell? ⟨w.heap.size + 1, 3, none⟩ = some (.int .u8 0) := (blk_cell H2.out 3).trans rfl
      have hz4 : wr.cell? ⟨w.heap.size + 1, 4, none⟩ = some (.int .u8 0) := (blk_cell H2.out 4).trans rfl
      have hz5 : wr.cell? ⟨w.heap.size + 1, 5, none⟩ = some (.int .u8 0) := (blk_cell H2.out 5).trans rfl
      have hf0 := blk_frozen H2.out 0
      have hf1 := blk_frozen H2.out 1
      have hf2 := blk_frozen H2.out 2
      have hf3 := blk_frozen H2.out 3
      have hf4 := blk_frozen H2.out 4
      have hf5 := blk_frozen H2.out 5
      go_wp2
      refine bodyPost_ret (results_cell_row rfl _ _ (w.heap.size + 1) 67 #[.int .u8 a0_0, .int .u8 a0_1, .int .u8 a0_2, .int .u8 a0_3, .int .u8 a0_4, .int .u8 a0_5] (0, 0) _ rfl (blk_put (cs := #[.int .u8 a0_0, .int .u8 a0_1, .int .u8 a0_2, .int .u8 a0_3, .int .u8 a0_4, .int .u8 0]) (blk_put (cs := #[.int .u8 a0_0, .int .u8 a0_1, .int .u8 a0_2, .int .u8 a0_3, .int .u8 0, .int .u8 0]) (blk_put (cs := #[.int .u8 a0_0, .int .u8 a0_1, .int .u8 a0_2, .int .u8 0, .int .u8 0, .int .u8 0]) (blk_put (cs := #[.int .u8 a0_0, .int .u8 a0_1, .int .u8 0, .int .u8 0, .int .u8 0, .int .u8 0]) (blk_put (cs := #[.int .u8 a0_0, .int .u8 0, .int .u8 0, .int .u8 0, .int .u8 0, .int .u8 0]) (blk_put (cs := #[.int .u8 0, .int .u8 0, .int .u8 0, .int .u8 0, .int .u8 0, .int .u8 0]) (H2.out) 0 _ rfl) 1 _ rfl) 2 _ rfl) 3 _ rfl) 4 _ rfl) 5 _ rfl) Try.underlying67 rfl (by kernel_rfl)) rfl ?_
      exact ⟨rfl, below_set (below_set (below_set (below_set (below_set (below_set (HB.out) (by omega)) (by omega)) (by omega)) (by omega)) (by omega)) (by omega)⟩

/-! ### laws_toStrand: function 121 -/
def laws_toStrand.f (a0_0 : Int) (a0_1 : Int) : Option (Int × Int) := some (a0_0, a0_1)
set_option maxHeartbeats 8000000 in
set_option maxRecDepth 100000 in
theorem laws_toStrand.calls (a0_0 : Int) (a0_1 : Int) (r1 : Int) (r2 : Int) (w : World) (h : laws_toStrand.f a0_0 a0_1 = some (r1, r2)) :
    Calls Try.prog 121 #[.agg #[.int .i16 a0_0, .int .u8 a0_1]] w fun e w' => e = .returned (.agg #[.int .i16 r1, .int .u8 r2]) ∧ Below w.heap.size w w' := by
  have hu161 := Try.underlying161
  have hu159 := Try.underlying159
  have HB := Aside0.mk (Below.refl w.heap.size w)
  have H : (some (a0_0, a0_1)) = some (r1, r2) := h
  clear h
  simp only [Option.some.injEq, Prod.mk.injEq] at H
  obtain ⟨rfl, rfl⟩ := H
  go_enter Try.func121, Try.ntmps121
  go_wp2_with (first | ((with_reducible refine gate_dst (N := 1) rfl ?_); refine box_event ?hg (N := 1) ?hd (cs := #[.int .i16 a0_0, .int .u8 a0_1]) (t := 161) ?hr ?_; (case hd => rfl); (case hg => rfl); (case hr => first | (go_simp; done) | (go_simp; rfl)); intro gb124 hg w2 hbox hb; have n0_ := Aside0.mk (below_step (by repeat (first | (with_reducible first | exact HB.out | apply below_alloc | apply pw_below_drewN | apply below_drew1) | exact HB.out)) hb); have n1_ := Aside0.mk (hbox); have n2_ := Aside0.mk ((by rw [hg]; exact (below_size (by repeat (first | (with_reducible first | exact HB.out | apply below_alloc | apply pw_below_drewN | apply below_drew1) | exact HB.out))) : w.heap.size ≤ gb124)); have n3_ := Aside0.mk ((by rw [hg]; exact (below_size (by repeat (first | (with_reducible first | exact HB.out | apply below_alloc | apply pw_below_drewN | apply below_drew1) | exact HB.out))) : w.heap.size ≤ gb124)); clear HB; have HB := n0_; have BK124 := n1_; have GW124 := n2_; have GE124 := n3_; clear n0_ n1_ n2_ n3_; clear hb hbox hg) | ((with_reducible refine gate_dst (N := 2) rfl ?_); refine box_event ?hg (N := 2) ?hd (cs := #[.int .i16 0, .int .u8 0]) (t := 159) ?hr ?_; (case hd => rfl); (case hg => rfl); (case hr => first | (go_simp; done) | (go_simp; rfl)); intro gb125 hg w3 hbox hb; have n0_ := Aside0.mk (blk_below (g := gb124) (o := .cells #[.int .i16 a0_0, .int .u8 a0_1] 161 (0, 0)) (by (with_reducible repeat (first | refine blk_drewN ?_ _ | refine blk_drew ?_ | refine blk_alloc ?_ _)); exact BK124.out) hb); have n1_ := Aside0.mk (below_step (by repeat (first | (with_reducible first | exact HB.out | apply below_alloc | apply pw_below_drewN | apply below_drew1 | refine below_set ?_ GE124.out) | exact HB.out)) hb); have n2_ := Aside0.mk (hbox); have n3_ := Aside0.mk ((by rw [hg]; exact (below_size (by repeat (first | (with_reducible first | exact HB.out | apply below_alloc | apply pw_below_drewN | apply below_drew1 | refine below_set ?_ GE124.out) | exact HB.out))) : w.heap.size ≤ gb125)); have n4_ := Aside0.mk ((by rw [hg]; exact (below_size (by repeat (first | (with_reducible first | exact HB.out | apply below_alloc | apply pw_below_drewN | apply below_drew1 | refine below_set ?_ GE124.out) | exact HB.out))) : w.heap.size ≤ gb125)); have n5_ := Aside0.mk ((by rw [hg]; exact Nat.ne_of_lt (blk_lt (g := gb124) (o := .cells #[.int .i16 a0_0, .int .u8 a0_1] 161 (0, 0)) (by (with_reducible repeat (first | refine blk_drewN ?_ _ | refine blk_drew ?_ | refine blk_alloc ?_ _)); exact BK124.out)) : gb124 ≠ gb125)); have n6_ := Aside0.mk ((by rw [hg]; exact Nat.ne_of_gt (blk_lt (g := gb124) (o := .cells #[.int .i16 a0_0, .int .u8 a0_1] 161 (0, 0)) (by (with_reducible repeat (first | refine blk_drewN ?_ _ | refine blk_drew ?_ | refine blk_alloc ?_ _)); exact BK124.out)) : gb125 ≠ gb124)); clear BK124; clear HB; have BK124 := n0_; have HB := n1_; have BK125 := n2_; have GW125 := n3_; have GE125 := n4_; have NB124_125 := n5_; have NB125_124 := n6_; clear n0_ n1_ n2_ n3_ n4_ n5_ n6_; clear hb hbox hg) | ((with_reducible refine gate_dst (N := 3) rfl ?_); refine box_event ?hg (N := 3) ?hd (cs := #[.int .i16 0, .int .u8 0]) (t := 159) ?hr ?_; (case hd => rfl); (case hg => rfl); (case hr => first | (go_simp; done) | (go_simp; rfl)); intro gb126 hg w4 hbox hb; have n0_ := Aside0.mk (blk_below (g := gb124) (o := .cells #[.int .i16 a0_0, .int .u8 a0_1] 161 (0, 0)) (by (with_reducible repeat (first | refine blk_drewN ?_ _ | refine blk_drew ?_ | refine blk_alloc ?_ _)); exact BK124.out) hb); have n1_ := Aside0.mk (blk_below (g := gb125) (o := .cells #[.int .i16 0, .int .u8 0] 159 (0, 0)) (by (with_reducible repeat (first | refine blk_drewN ?_ _ | refine blk_drew ?_ | refine blk_alloc ?_ _)); exact BK125.out) hb); have n2_ := Aside0.mk (below_step (by repeat (first | (with_reducible first | exact HB.out | apply below_alloc | apply pw_below_drewN | apply below_drew1 | refine below_set ?_ GE124.out | refine below_set ?_ GE125.out) | exact HB.out)) hb); have n3_ := Aside0.mk (hbox); have n4_ := Aside0.mk ((by rw [hg]; exact (below_size (by repeat (first | (with_reducible first | exact HB.out | apply below_alloc | apply pw_below_drewN | apply below_drew1 | refine below_set ?_ GE124.out | refine below_set ?_ GE125.out) | exact HB.out))) : w.heap.size ≤ gb126)); have n5_ := Aside0.mk ((by rw [hg]; exact (below_size (by repeat (first | (with_reducible first | exact HB.out | apply below_alloc | apply pw_below_drewN | apply below_drew1 | refine below_set ?_ GE124.out | refine below_set ?_ GE125.out) | exact HB.out))) : w.heap.size ≤ gb126)); have n6_ := Aside0.mk ((by rw [hg]; exact Nat.ne_of_lt (blk_lt (g := gb124) (o := .cells #[.int .i16 a0_0, .int .u8 a0_1] 161 (0, 0)) (by (with_reducible repeat (first | refine blk_drewN ?_ _ | refine blk_drew ?_ | refine blk_alloc ?_ _)); exact BK124.out)) : gb124 ≠ gb126)); have n7_ := Aside0.mk ((by rw [hg]; exact Nat.ne_of_gt (blk_lt (g := gb124) (o := .cells #[.int .i16 a0_0, .int .u8 a0_1] 161 (0, 0)) (by (with_reducible repeat (first | refine blk_drewN ?_ _ | refine blk_drew ?_ | refine blk_alloc ?_ _)); exact BK124.out)) : gb126 ≠ gb124)); have n8_ := Aside0.mk ((by rw [hg]; exact Nat.ne_of_lt (blk_lt (g := gb125) (o := .cells #[.int .i16 0, .int .u8 0] 159 (0, 0)) (by (with_reducible repeat (first | refine blk_drewN ?_ _ | refine blk_drew ?_ | refine blk_alloc ?_ _)); exact BK125.out)) : gb125 ≠ gb126)); have n9_ := Aside0.mk ((by rw [hg]; exact Nat.ne_of_gt (blk_lt (g := gb125) (o := .cells #[.int .i16 0, .int .u8 0] 159 (0, 0)) (by (with_reducible repeat (first | refine blk_drewN ?_ _ | refine blk_drew ?_ | refine blk_alloc ?_ _)); exact BK125.out)) : gb126 ≠ gb125)); clear BK124; clear BK125; clear HB; have BK124 := n0_; have BK125 := n1_; have HB := n2_; have BK126 := n3_; have GW126 := n4_; have GE126 := n5_; have NB124_126 := n6_; have NB126_124 := n7_; have NB125_126 := n8_; have NB126_125 := n9_; clear n0_ n1_ n2_ n3_ n4_ n5_ n6_ n7_ n8_ n9_; clear hb hbox hg; have hnb5 := NB124_125.out; have hnc5 := NB125_124.out; have hnb6 := NB124_126.out; have hnc6 := NB126_124.out; have hcz7_0 : w4.cell? ⟨gb124, 0, none⟩ = some (.int .i16 a0_0) := (blk_cell BK124.out 0).trans rfl; have hcz7_1 : w4.cell? ⟨gb124, 1, none⟩ = some (.int .u8 a0_1) := (blk_cell BK124.out 1).trans rfl; have hfz7_0 := blk_frozen BK124.out 0; have hfz7_1 := blk_frozen BK124.out 1; have hnb8 := NB126_125.out; have hnc8 := NB125_126.out; have hcz9_0 : w4.cell? ⟨gb126, 0, none⟩ = some (.int .i16 0) := (blk_cell BK126.out 0).trans rfl; have hcz9_1 : w4.cell? ⟨gb126, 1, none⟩ = some (.int .u8 0) := (blk_cell BK126.out 1).trans rfl; have hfz9_0 := blk_frozen BK126.out 0; have hfz9_1 := blk_frozen BK126.out 1; have hcz10_0 : w4.cell? ⟨gb125, 0, none⟩ = some (.int .i16 0) := (blk_cell BK125.out 0).trans rfl; have hcz10_1 : w4.cell? ⟨gb125, 1, none⟩ = some (.int .u8 0) := (blk_cell BK125.out 1).trans rfl; have hfz10_0 := blk_frozen BK125.out 0; have hfz10_1 := blk_frozen BK125.out 1))
  refine bodyPost_ret (results_cell_row rfl _ _ gb125 159 #[.int .i16 a0_0, .int .u8 a0_1] (0, 0) _ rfl (by (with_reducible repeat (first | refine blk_drewN ?_ _ | refine blk_drew ?_ | refine blk_alloc ?_ _)); refine blk_put (cs := #[.int .i16 a0_0, .int .u8 0]) ?_ 1 _ rfl; (with_reducible repeat (first | refine blk_drewN ?_ _ | refine blk_drew ?_ | refine blk_alloc ?_ _)); refine blk_put (cs := #[.int .i16 0, .int .u8 0]) ?_ 0 _ rfl; (with_reducible repeat (first | refine blk_drewN ?_ _ | refine blk_drew ?_ | refine blk_alloc ?_ _)); refine blk_far ?_ NB125_126.out _; (with_reducible repeat (first | refine blk_drewN ?_ _ | refine blk_drew ?_ | refine blk_alloc ?_ _)); refine blk_far ?_ NB125_126.out _; (with_reducible repeat (first | refine blk_drewN ?_ _ | refine blk_drew ?_ | refine blk_alloc ?_ _)); exact BK125.out) Try.underlying159 rfl (by kernel_rfl)) rfl ?_
  exact ⟨by first | rfl | (simp [errW_none, errW_some] <;> rfl) | (simp [*, errW_none, errW_some] <;> rfl), by repeat (first | (with_reducible first | exact HB.out | apply below_alloc | apply pw_below_drewN | apply below_drew1 | refine below_set ?_ GE124.out | refine below_set ?_ GE125.out | refine below_set ?_ GE126.out) | exact HB.out)⟩

/-! ### laws_toStrandS: function 46 -/
def laws_toStrandS.l0 : Nat → List (S161) → List (S159) → Int → Option ((List (S159)))
  | 0, _, _, _ => none
  | k + 1, x0, x3, x4 => if x4 < (x0.length : Int) then (if 0 ≤ x4 then ((laws_toStrand.f ((rd_T161 x0 x4).f0) ((rd_T161 x0 x4).f1)).bind fun bt131 => (if x4 < (x3.length : Int) then (laws_toStrandS.l0 k x0 (x3.set (x4 : Int).toNat (⟨bt131.1, bt131.2⟩ : S159)) (wrap64 (x4 + 1))) else (none))) else (none)) else (some x3)
def laws_toStrandS.f (k : Nat) (l0 : List (S161)) : Option ((List (S159))) := if 0 ≤ (l0.length : Int) then (if ((l0.length : Int) : Int).toNat ≤ 70368744177664 then (laws_toStrandS.l0 k l0 (List.replicate ((l0.length : Int) : Int).toNat z159) 0) else (none)) else (none)
theorem laws_toStrandS.mono_l : ∀ k, (∀ y0 y1 y2, LeO (laws_toStrandS.l0 k y0 y1 y2) (laws_toStrandS.l0 (k + 1) y0 y1 y2))
  | 0 => fun _ _ _ r h => by simp [laws_toStrandS.l0] at h
  | k + 1 => by
    have ih0 := laws_toStrandS.mono_l k
    · intro y0 y1 y2
      unfold laws_toStrandS.l0
      repeat' first
      | (with_reducible exact ih0 _ _ _)
      | (with_reducible exact LeO.refl _)
      | (with_reducible exact LeO.none _)
      | (with_reducible refine LeO.ite ?_ ?_)
      | (with_reducible refine LeO.bind ?_ (fun _ => ?_))
      | exact ih0 _ _ _
      | exact LeO.none _
      | refine LeO.ite ?_ ?_
      | refine LeO.bind ?_ (fun _ => ?_)
theorem laws_toStrandS.mono : ∀ a0 k, LeO (laws_toStrandS.f k a0) (laws_toStrandS.f (k + 1) a0) := by
  intro a0 k
  have ih0 := laws_toStrandS.mono_l k
  unfold laws_toStrandS.f
  repeat' first
      | (with_reducible exact ih0 _ _ _)
      | (with_reducible exact LeO.refl _)
      | (with_reducible exact LeO.none _)
      | (with_reducible refine LeO.ite ?_ ?_)
      | (with_reducible refine LeO.bind ?_ (fun _ => ?_))
      | exact ih0 _ _ _
      | exact LeO.none _
      | refine LeO.ite ?_ ?_
      | refine LeO.bind ?_ (fun _ => ?_)
set_option maxHeartbeats 8000000 in
set_option maxRecDepth 100000 in
theorem laws_toStrandS.calls (k : Nat) (A0 : Option Addr) (c0 : Nat) (l0 : List (S161)) (r : List (S159)) (w : World) (hr0 : Kd.C k161 w A0 l0.length l0) (hc0 : l0.length ≤ c0) (h : laws_toStrandS.f k l0 = some r) :
    Calls Try.prog 46 #[.slice A0 l0.length c0] w fun e w' => ∃ v0_ : Value, e = .returned (v0_) ∧ Kd.R k159 159 w' w.heap.size (fun _ => True) v0_ r ∧ Below w.heap.size w w' := by
  have hu161 := Try.underlying161
  have hu159 := Try.underlying159
  have HR0 := Aside0.mk hr0
  have HC0 := Aside0.mk hc0
  clear hr0 hc0
  have HB := Aside0.mk (Below.refl w.heap.size w)
  have H : (if 0 ≤ (l0.length : Int) then (if ((l0.length : Int) : Int).toNat ≤ 70368744177664 then (laws_toStrandS.l0 k l0 (List.replicate ((l0.length : Int) : Int).toNat z159) 0) else (none)) else (none)) = some r := h
  clear h
  by_cases c2 : 0 ≤ (l0.length : Int)
  · rw [if_pos c2] at H
    have c2b0 := eq_true c2
    have c2b1 : decide (0 ≤ (l0.length : Int)) = true := decide_eq_true c2
    clear c2
    by_cases c3 : ((l0.length : Int) : Int).toNat ≤ 70368744177664
    · rw [if_pos c3] at H
      have c3b0 := eq_true c3
      have c3b1 : decide (((l0.length : Int) : Int).toNat ≤ 70368744177664) = true := decide_eq_true c3
      clear c3
      obtain ⟨y127, hy127⟩ : ∃ y_ : List (S159), y_ = (List.replicate ((l0.length : Int) : Int).toNat z159) := ⟨_, rfl⟩
      replace H : (laws_toStrandS.l0 k l0 y127 0) = some r := by first | (rw [hy127]; with_reducible exact H) | (have H2_ := (Option.bind_some _ _).symm.trans H; rw [hy127]; with_reducible exact H2_) | (have H2_ := (Option.bind_some _ _).symm.trans H; with_reducible exact H2_) | with_reducible exact H | (rw [hy127]; exact H) | exact H
      have Ny127 := Aside0.mk hy127
      clear hy127
      have H' := Aside0.mk H
      clear H
      go_enter Try.func46, Try.ntmps46
      go_wp2_with (first | ((with_reducible refine gate_dst (N := 7) rfl ?_); refine Kd.R_make k159 _ 159 rfl (N := 7) rfl 69 _ _ rfl (l0.length : Int) rfl rfl Try.underlying69 (.agg #[(.int .i16 0), (.int .u8 0)]) 4 info159 rfl (by decide) (by omega) z159 (ok := fun _ => True) (okp := fun _ => True) (k159_mkM _ _ _ z159 ) (fun _ hk => hk) trivial (of_decide_eq_true (by first | (with_reducible assumption) | assumption)) (Nat.le_trans (Nat.mul_le_mul_right _ (of_decide_eq_true (by first | (with_reducible assumption) | assumption) : (l0.length : Int).toNat ≤ 70368744177664)) (by omega)) (Below.refl _ _) (Nat.le_refl _) ?_; intro v128 w4 ho5 hb hg_ hnew_; clear hg_ hnew_; (first | rw [← Ny127.out] at ho5 | (simp only [Int.reduceToNat] at ho5; rw [← Ny127.out] at ho5)); have n0_ := Aside0.mk (Kd.R_lower ho5 (below_size (by repeat (first | (with_reducible first | exact HB.out | apply below_alloc | apply pw_below_drewN | apply below_drew1) | exact HB.out)))); have n1_ := Aside0.mk (below_step (by repeat (first | (with_reducible first | exact HB.out | apply below_alloc | apply pw_below_drewN | apply below_drew1) | exact HB.out)) hb); clear HB; have HO129 := n0_; have HB := n1_; clear n0_ n1_; clear hb ho5))
      go_loopg [4] k (fun kq v4 w' => ∃ (x3_1 : List (S159)) (x4_1 : Int), v4 = .int .i64 x4_1 ∧ Aside0 (laws_toStrandS.l0 kq l0 x3_1 x4_1 = some r) ∧ Aside0 (kq ≤ k) ∧ Aside0 (Kd.R k159 159 w' w.heap.size (fun _ => True) v128 x3_1) ∧ Aside0 (Below w.heap.size w w'))
      case atStart => exact ⟨(y127), (0), (by first | rfl | (simp; done) | (simp [*]; done)), H', ⟨Nat.le_refl _⟩, ⟨by (with_reducible repeat (first | apply Kd.R_alloc | apply Kd.R_drewN | apply Kd.R_drew)); exact HO129.out⟩, ⟨by repeat (first | (with_reducible first | exact HB.out | apply below_alloc | apply pw_below_drewN | apply below_drew1) | exact HB.out)⟩⟩
      case round =>
        clear H'
        try clear c2
        try clear c2b0
        try clear c2b1
        try clear p2
        try clear c3
        try clear c3b0
        try clear c3b1
        try clear c4
        obtain ⟨x3_1, x4_1, rfl, HA, HK1, HO_3, HB⟩ := hrel
        cases gk with
        | zero => exact absurd HA.out (by simp [laws_toStrandS.l0])
        | succ k1 =>
          have H := HA.out
          clear HA
          simp only [laws_toStrandS.l0] at H
          by_cases c6 : x4_1 < (l0.length : Int)
          · rw [if_pos c6] at H
            have c6b0 : decide (x4_1 < (l0.length : Int)) = true := decide_eq_true c6
            clear c6
            by_cases c7 : 0 ≤ x4_1
            · rw [if_pos c7] at H
              have c7b0 : decide (0 ≤ x4_1) = true := decide_eq_true c7
              clear c7
              replace H := Option.bind_eq_some_iff.mp H
              obtain ⟨⟨t131, t132⟩, A80, H⟩ := H
              replace H : (if x4_1 < (x3_1.length : Int) then (laws_toStrandS.l0 k1 l0 (x3_1.set (x4_1 : Int).toNat (⟨t131, t132⟩ : S159)) (wrap64 (x4_1 + 1))) else (none)) = some r := H
              have A8 := Aside0.mk A80
              clear A80
              by_cases c9 : x4_1 < (x3_1.length : Int)
              · rw [if_pos c9] at H
                have c9b0 : decide (x4_1 < (x3_1.length : Int)) = true := decide_eq_true c9
                clear c9
                obtain ⟨y133, hy133⟩ : ∃ y_ : List (S159), y_ = (x3_1.set (x4_1 : Int).toNat (⟨t131, t132⟩ : S159)) := ⟨_, rfl⟩
                replace H : (laws_toStrandS.l0 k1 l0 y133 (wrap64 (x4_1 + 1))) = some r := by first | (rw [hy133]; with_reducible exact H) | (have H2_ := (Option.bind_some _ _).symm.trans H; rw [hy133]; with_reducible exact H2_) | (have H2_ := (Option.bind_some _ _).symm.trans H; with_reducible exact H2_) | with_reducible exact H | (rw [hy133]; exact H) | exact H
                have Ny133 := Aside0.mk hy133
                clear hy133
                have H' := Aside0.mk H
                clear H
                have p130 : 0 ≤ (x4_1 : Int) := of_decide_eq_true (by first | (with_reducible assumption) | assumption)
                have q130 : x4_1 < (l0.length : Int) := of_decide_eq_true (by first | (with_reducible assumption) | assumption)
                obtain ⟨ad130, e130, hx130_0, hx130_1⟩ := at_T161 HR0.out x4_1 p130 q130
                cases e130
                replace hx130_0 := (HB.out.cell (World.block_lt_of_cell? w _ hx130_0)).trans hx130_0
                replace hx130_1 := (HB.out.cell (World.block_lt_of_cell? w _ hx130_1)).trans hx130_1
                replace p130 := eq_true p130
                replace q130 := eq_true q130
                go_wp2_with (first | ((with_reducible refine gate_callee (f := 121) rfl ?_); refine goesL_ (some 20) rfl rfl Try.func121 (by kernel_rfl) rfl #[.agg #[.int .i16 ((rd_T161 l0 x4_1).f0), .int .u8 ((rd_T161 l0 x4_1).f1)]] rfl (by (try simp only [List.map_toArray, List.map_cons, List.map_nil]); first | done | rfl | (simp only [List.length_drop, List.length_take]; rfl)) ?_; (with_reducible refine (laws_toStrand.calls ((rd_T161 l0 x4_1).f0) ((rd_T161 l0 x4_1).f1) t131 t132 _ A8.out).mono ?_); rintro e w11 ⟨rfl, hb⟩; refine ⟨_, rfl, ?_⟩; have n0_ := Aside0.mk (Kd.R_below (by (with_reducible repeat (first | apply Kd.R_alloc | apply Kd.R_drewN | apply Kd.R_drew)); exact HO_3.out) hb); have n1_ := Aside0.mk (below_step (by repeat (first | (with_reducible first | exact HB.out | apply below_alloc | apply pw_below_drewN | apply below_drew1) | exact HB.out)) hb); clear HO_3; clear HB; have HO_3 := n0_; have HB := n1_; clear n0_ n1_; (try clear hb); (try clear hb2); (try clear hk); (try clear hi); have p10 : 0 ≤ (x4_1 : Int) := of_decide_eq_true (by first | (with_reducible assumption) | assumption); have q10 : (x4_1 : Int) < ((x3_1.length : Int) : Int) := of_decide_eq_true (by first | (with_reducible assumption) | assumption); obtain ⟨go10, co10, eo10, gb10, gl10, cl10, HG10⟩ := Kd.R_form HO_3.out (by omega); (first | cases eo10 | (injection eo10 with ea_ en_ ec_; (first | subst ea_ | (injection ea_ with ea_; subst ea_)); subst ec_; clear en_)); have GB10 := Aside0.mk gb10; have GG10 := Aside0.mk HG10; clear gb10 gl10 HG10; obtain ⟨ce10, hcl10, hM10, hcc10, hfr10⟩ := Kd.R_elem HO_3.out z159 (x4_1 : Int) p10 q10; obtain rfl := k159_openM hM10; have hx10_0 : w11.cell? ⟨go10, (x4_1 : Int).toNat * 2, none⟩ = some (.int .i16 ((rd_T159 x3_1 x4_1).f0)) := hcc10 0 _ rfl; have hx10_1 : w11.cell? ⟨go10, (x4_1 : Int).toNat * 2 + 1, none⟩ = some (.int .u8 ((rd_T159 x3_1 x4_1).f1)) := hcc10 1 _ rfl; have hf10_0 : w11.frozen? ⟨go10, (x4_1 : Int).toNat * 2, none⟩ = false := hfr10 0; have hf10_1 : w11.frozen? ⟨go10, (x4_1 : Int).toNat * 2 + 1, none⟩ = false := hfr10 1; clear hcl10 hcc10 hfr10 hM10; replace p10 := eq_true p10; replace q10 := eq_true q10; have HX12 := Aside0.mk (show Kd.R k159 159 w11 w.heap.size (fun _ => True) (.slice (some ⟨go10, 0, none⟩) x3_1.length co10) x3_1 from (by (with_reducible repeat (first | apply Kd.R_alloc | apply Kd.R_drewN | apply Kd.R_drew)); exact HO_3.out)); obtain ⟨ce12, hcl12, hM12, hcc12, hfr12⟩ := Kd.R_elem HX12.out z159 (x4_1 : Int) (of_decide_eq_true (by first | (with_reducible assumption) | assumption)) (by have h_ : (x4_1 : Int) < ((x3_1.length : Int) : Int) := of_decide_eq_true (by first | (with_reducible assumption) | assumption); first | exact h_ | (have e_ := (Kd.R_reads' HO_3.out).1; omega) | simpa using h_); obtain rfl := k159_openM hM12; have HP12 := Kd.R_seg HX12.out (x4_1 : Int) (of_decide_eq_true (by first | (with_reducible assumption) | assumption)) (by have h_ : (x4_1 : Int) < ((x3_1.length : Int) : Int) := of_decide_eq_true (by first | (with_reducible assumption) | assumption); first | exact h_ | (have e_ := (Kd.R_reads' HO_3.out).1; omega) | simpa using h_) (seg := [.int .i16 t131, .int .u8 t132]) (j := 0) hcl12 hcc12 (show 2 ≤ 2 from by decide) (x' := (⟨t131, t132⟩ : S159)) (k159_mkM _ _ _ (⟨t131, t132⟩ : S159) ) (fun _ hk => hk); have hx12_0 := hcc12 0 _ rfl; (try simp only [show (k159).sz = 2 from rfl, Nat.mul_one, Nat.add_zero] at hx12_0); have hf12_0 := hfr12 0; (try simp only [show (k159).sz = 2 from rfl, Nat.mul_one, Nat.add_zero] at hf12_0); have hx12_1 := hcc12 1 _ rfl; (try simp only [show (k159).sz = 2 from rfl, Nat.mul_one, Nat.add_zero] at hx12_1); have hf12_1 := hfr12 1; (try simp only [show (k159).sz = 2 from rfl, Nat.mul_one, Nat.add_zero] at hf12_1); clear hcl12 hcc12 hfr12 hM12) | ((with_reducible refine gate_store (t := 159) (p := 21) rfl ?_); refine store_event (t := 159) (p := 21) (v := ?vo_w13) (w1 := ((w11.setCell ⟨go10, (x4_1 : Int).toNat * 2, none⟩ (.int .i16 t131)).setCell ⟨go10, (x4_1 : Int).toNat * 2 + 1, none⟩ (.int .u8 t132))) ?hg ?ho ?hn ?hr ?_; (case ho => rfl); (case hg => rfl); (case hn => rfl); (case hr => first | (go_simp; done) | (go_simp; rfl)); intro w13 hw; have hg : w11.grownBy w13 (some go10) := (by rw [hw]; exact HP12.2); have hp_ : Kd.R k159 159 w13 w.heap.size (fun _ => True) (.slice (some ⟨go10, 0, none⟩) x3_1.length co10) y133 := (by rw [hw, Ny133.out]; exact HP12.1); clear HP12; have n0_ := Aside0.mk (hp_); have n1_ := Aside0.mk ((by rw [hw]; exact below_set (below_set (HB.out) GB10.out) GB10.out : Below w.heap.size w w13)); clear HO_3; clear HB; have HO_3 := n0_; have HB := n1_; clear n0_ n1_; clear hg hw hp_))
                go_roundg k1
                case measure => have := HK1.out; omega
                case rel => exact ⟨(y133), (wrap64 (x4_1 + 1)), (by first | rfl | (simp; done) | (simp [*]; done)), H', ⟨by have := HK1.out; omega⟩, ⟨by (with_reducible repeat (first | apply Kd.R_alloc | apply Kd.R_drewN | apply Kd.R_drew)); exact HO_3.out⟩, ⟨by repeat (first | (with_reducible first | exact HB.out | apply below_alloc | apply pw_below_drewN | apply below_drew1) | exact HB.out)⟩⟩
              · rw [if_neg c9] at H
                exact absurd H (by simp)
            · rw [if_neg c7] at H
              exact absurd H (by simp)
          · rw [if_neg c6] at H
            have c6b0 : decide (x4_1 < (l0.length : Int)) = false := decide_eq_false c6
            clear c6
            obtain rfl := Option.some.inj H
            go_wp2
            go_ret
            exact ⟨_, by first | rfl | (simp [errW_none, errW_some] <;> rfl) | (simp [*, errW_none, errW_some] <;> rfl), by (with_reducible repeat (first | apply Kd.R_alloc | apply Kd.R_drewN | apply Kd.R_drew)); exact HO_3.out, by repeat (first | (with_reducible first | exact HB.out | apply below_alloc | apply pw_below_drewN | apply below_drew1) | exact HB.out)⟩
    · rw [if_neg c3] at H
      exact absurd H (by simp)
  · rw [if_neg c2] at H
    exact absurd H (by simp)

/-! ### impl_within: function 89 -/
def impl_within.f (a0 : Int) (a1 : Int) (a2 : Int) : Option (Bool) := if a1 ≤ a0 then (some (decide (a0 ≤ a2))) else (some false)
set_option maxHeartbeats 8000000 in
set_option maxRecDepth 100000 in
theorem impl_within.calls (a0 : Int) (a1 : Int) (a2 : Int) (r : Bool) (w : World) (h : impl_within.f a0 a1 a2 = some r) :
    Calls Try.prog 89 #[.int .i64 a0, .int .i64 a1, .int .i64 a2] w fun e w' => e = .returned (.bool r) ∧ Drawn0 w w' := by
  have H : (if a1 ≤ a0 then (some (decide (a0 ≤ a2))) else (some false)) = some r := h
  clear h
  by_cases c4 : a1 ≤ a0
  · rw [if_pos c4] at H
    have c4b0 : decide (a1 ≤ a0) = true := decide_eq_true c4
    clear c4
    obtain rfl := Option.some.inj H
    go_enter Try.func89, Try.ntmps89
    go_wp2
    go_ret
    exact ⟨by first | rfl | (simp; done) | (simp [*]; done), by repeat (first | exact Drawn0.refl _ | apply Drawn0.step)⟩
  · rw [if_neg c4] at H
    have c4b0 : decide (a1 ≤ a0) = false := decide_eq_false c4
    clear c4
    obtain rfl := Option.some.inj H
    go_enter Try.func89, Try.ntmps89
    go_wp2
    go_ret
    exact ⟨by first | rfl | (simp; done) | (simp [*]; done), by repeat (first | exact Drawn0.refl _ | apply Drawn0.step)⟩

/-! ### impl_ValidMeets: function 193 -/
/-- One bit, as the program takes it. -/
def impl_mBit (x : Int) (a : Nat) : Int := bits BinOp.and IntKind.u8 (x / 2 ^ a) 1
theorem impl_arr6_cell {w : World} {g t : Nat} {m0 m1 m2 m3 m4 m5 : Int} (h : w.heap[g]? = some (.cells #[.int .u8 m0, .int .u8 m1, .int .u8 m2, .int .u8 m3, .int .u8 m4, .int .u8 m5] t (0, 0))) (k : Nat) (hk : k < 6) :
    w.cell? ⟨g, k, none⟩ = some (.int .u8 (rd [m0, m1, m2, m3, m4, m5] (k : Int))) := by
  have hc := blk_cell h k
  rw [hc]
  have : k = 0 ∨ k = 1 ∨ k = 2 ∨ k = 3 ∨ k = 4 ∨ k = 5 := by omega
  rcases this with rfl | rfl | rfl | rfl | rfl | rfl <;> rfl
set_option maxRecDepth 100000 in
theorem impl_arr6_index (m0 m1 m2 m3 m4 m5 : Int) (k : Nat) (hk : k < 6) (W : World) :
    (Instr.index 67 (.agg #[.int .u8 m0, .int .u8 m1, .int .u8 m2, .int .u8 m3, .int .u8 m4, .int .u8 m5]) (.int .i64 (k : Int))).run Try.prog W = .ok (.int .u8 (rd [m0, m1, m2, m3, m4, m5] (k : Int))) W := by
  have : k = 0 ∨ k = 1 ∨ k = 2 ∨ k = 3 ∨ k = 4 ∨ k = 5 := by omega
  rcases this with rfl | rfl | rfl | rfl | rfl | rfl <;> rfl
/-- The bits of x (dye a) from b = 6 - d on. -/
def impl_vmB (ms : List Int) (x : Int) (a : Nat) : Nat → Bool
  | 0 => true
  | d + 1 => if impl_mBit x (5 - d) = impl_mBit (rd ms ((5 - d : Nat) : Int)) a then impl_vmB ms x a d else false
/-- The dyes from a = 6 - d on. -/
def impl_vmA (ms : List Int) : Nat → Bool
  | 0 => true
  | d + 1 => if rd ms ((5 - d : Nat) : Int) / 64 = 0 then (if impl_mBit (rd ms ((5 - d : Nat) : Int)) (5 - d) = 0 then false else if impl_vmB ms (rd ms ((5 - d : Nat) : Int)) (5 - d) 6 = true then impl_vmA ms d else false) else false
def impl_ValidMeets.f (a0_0 a0_1 a0_2 a0_3 a0_4 a0_5 : Int) : Option Bool := some (impl_vmA [a0_0, a0_1, a0_2, a0_3, a0_4, a0_5] 6)
set_option maxHeartbeats 8000000 in
set_option maxRecDepth 100000 in
theorem impl_ValidMeets.calls (a0_0 : Int) (a0_1 : Int) (a0_2 : Int) (a0_3 : Int) (a0_4 : Int) (a0_5 : Int) (r : Bool) (w : World) (h : impl_ValidMeets.f a0_0 a0_1 a0_2 a0_3 a0_4 a0_5 = some r) :
    Calls Try.prog 193 #[.agg #[.int .u8 a0_0, .int .u8 a0_1, .int .u8 a0_2, .int .u8 a0_3, .int .u8 a0_4, .int .u8 a0_5]] w fun e w' => e = .returned (.bool r) ∧ Below w.heap.size w w' := by
  unfold impl_ValidMeets.f at h
  have HA0 := Aside0.mk (Option.some.inj h)
  clear h
  have IXA := Aside0.mk (impl_arr6_index a0_0 a0_1 a0_2 a0_3 a0_4 a0_5)
  have HB0 : Aside0 (Below w.heap.size w (w.alloc (.cells #[.int .u8 a0_0, .int .u8 a0_1, .int .u8 a0_2, .int .u8 a0_3, .int .u8 a0_4, .int .u8 a0_5] 67))) := ⟨below_alloc (Below.refl _ w) _⟩
  have HG0 : Aside0 ((w.alloc (.cells #[.int .u8 a0_0, .int .u8 a0_1, .int .u8 a0_2, .int .u8 a0_3, .int .u8 a0_4, .int .u8 a0_5] 67)).heap[w.heap.size]? = some (.cells #[.int .u8 a0_0, .int .u8 a0_1, .int .u8 a0_2, .int .u8 a0_3, .int .u8 a0_4, .int .u8 a0_5] 67 (0, 0))) := ⟨blk_new w _⟩
  go_enter Try.func193, Try.ntmps193
  go_wp2
  generalize w.alloc (.cells #[.int .u8 a0_0, .int .u8 a0_1, .int .u8 a0_2, .int .u8 a0_3, .int .u8 a0_4, .int .u8 a0_5] 67) = W0 at *
  go_loopg [7] 6 (fun gg v7 wr => ∃ kk : Nat, kk + gg = 6 ∧ v7 = .int .i64 (kk : Int) ∧ Aside0 (Below w.heap.size w wr) ∧ Aside0 (wr.heap[w.heap.size]? = some (.cells #[.int .u8 a0_0, .int .u8 a0_1, .int .u8 a0_2, .int .u8 a0_3, .int .u8 a0_4, .int .u8 a0_5] 67 (0, 0))) ∧ Aside0 (impl_vmA [a0_0, a0_1, a0_2, a0_3, a0_4, a0_5] gg = r))
  case atStart => exact ⟨0, by omega, rfl, HB0, HG0, HA0⟩
  case round =>
    clear HA0 HB0 HG0
    obtain ⟨kk, hkk, rfl, HB, HG, HA⟩ := hrel
    cases gk with
    | zero =>
      have hlt : ¬ (kk : Int) < 6 := by omega
      have hr : true = r := HA.out
      clear HA
      go_wp2
      go_ret
      exact ⟨by subst hr; rfl, HB.out⟩
    | succ d =>
      have hk : kk < 6 := by omega
      have hlt : (kk : Int) < 6 := by omega
      have e5 : 5 - d = kk := by omega
      have hA := HA.out
      simp only [impl_vmA, e5] at hA
      have hix := fun W => IXA.out kk hk W
      have HA2 := Aside0.mk hA
      clear hA HA
      generalize rd [a0_0, a0_1, a0_2, a0_3, a0_4, a0_5] (kk : Int) = x at *
      go_wp2
      case _ h2 h1 =>
        go_ret
        refine ⟨?_, HB.out⟩
        have z := HA2.out
        rw [if_pos h2, if_pos (by unfold impl_mBit; simpa using h1)] at z
        rw [← z]; rfl
      case _ h2 h1 =>
        have HA3 : Aside0 ((if impl_vmB [a0_0, a0_1, a0_2, a0_3, a0_4, a0_5] x kk 6 = true then impl_vmA [a0_0, a0_1, a0_2, a0_3, a0_4, a0_5] d else false) = r) := ⟨by
          have z := HA2.out
          rw [if_pos h2, if_neg (by unfold impl_mBit; simpa using h1)] at z
          exact z⟩
        clear HA2 h1 h2 hix
        go_loopg [21] 6 (fun gg v21 wr => ∃ jj : Nat, jj + gg = 6 ∧ v21 = .int .i64 (jj : Int) ∧ Aside0 (Below w.heap.size w wr) ∧ Aside0 (wr.heap[w.heap.size]? = some (.cells #[.int .u8 a0_0, .int .u8 a0_1, .int .u8 a0_2, .int .u8 a0_3, .int .u8 a0_4, .int .u8 a0_5] 67 (0, 0))) ∧ Aside0 ((if impl_vmB [a0_0, a0_1, a0_2, a0_3, a0_4, a0_5] x kk gg = true then impl_vmA [a0_0, a0_1, a0_2, a0_3, a0_4, a0_5] d else false) = r))
        case atStart => exact ⟨0, by omega, rfl, HB, HG, HA3⟩
        case round =>
          clear HB HG HA3
          obtain ⟨jj, hjj, rfl, HB, HG, HA⟩ := hrel
          cases gk with
          | zero =>
            have hjlt : ¬ (jj : Int) < 6 := by omega
            have hr : impl_vmA [a0_0, a0_1, a0_2, a0_3, a0_4, a0_5] d = r := by have z := HA.out; simpa [impl_vmB] using z
            have HR := Aside0.mk hr
            clear HA hr
            go_wp2
            go_roundg d
            case measure => omega
            case rel => exact ⟨kk + 1, by omega, by go_num, HB, HG, HR⟩
          | succ g =>
            have hj : jj < 6 := by omega
            have hjlt : (jj : Int) < 6 := by omega
            have f5 : 5 - g = jj := by omega
            have hA := HA.out
            simp only [impl_vmB, f5] at hA
            have hx := impl_arr6_cell HG.out jj hj
            have HA2 := Aside0.mk hA
            clear hA HA
            generalize rd [a0_0, a0_1, a0_2, a0_3, a0_4, a0_5] (jj : Int) = y at *
            by_cases hc : impl_mBit x jj = impl_mBit y kk
            · have HA3 : Aside0 ((if impl_vmB [a0_0, a0_1, a0_2, a0_3, a0_4, a0_5] x kk g = true then impl_vmA [a0_0, a0_1, a0_2, a0_3, a0_4, a0_5] d else false) = r) := ⟨by
                have z := HA2.out; rw [if_pos hc] at z; exact z⟩
              clear HA2
              unfold impl_mBit at hc
              go_wp2
              repeat (go_quiet (fail); try go_wp2)
              go_roundg g
              case measure => omega
              case rel => exact ⟨jj + 1, by omega, by go_num, ⟨pw_below_drewN HB.out _⟩, ⟨blk_drewN HG.out _⟩, HA3⟩
            · have HR : Aside0 (false = r) := ⟨by have z := HA2.out; rw [if_neg hc] at z; simpa using z⟩
              clear HA2
              unfold impl_mBit at hc
              go_wp2
              go_quiet (fail)
              go_wp2
              go_ret
              exact ⟨by rw [← HR.out]; rfl, pw_below_drewN HB.out _⟩
      case _ h1 =>
        go_ret
        refine ⟨?_, HB.out⟩
        have z := HA2.out
        rw [if_neg h1] at z
        rw [← z]; rfl

end Go.Proofs.Ytjhjabibkkhmjaa.XFnExactFewestReels
