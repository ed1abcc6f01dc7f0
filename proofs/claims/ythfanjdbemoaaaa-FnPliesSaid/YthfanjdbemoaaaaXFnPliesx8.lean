/- The functions that the law FnPlies reaches: each as a Lean function, and that its call does what that function says; no conditions. -/
import Derived.Test.YthfanjdbemoaaaaXFnPliesx0
import Derived.Test.YthfanjdbemoaaaaXFnPliesx4
import Derived.Test.YthfanjdbemoaaaaXFnPliesx7
namespace Go.Proofs.Ythfanjdbemoaaaa.XFnPlies
open Go.RowKit Go.Proofs.YthfanjdbemoaaaaW.PrintWords Go.Proofs.YthfanjdbemoaaaaW.PrintLast Go.Proofs.YthfanjdbemoaaaaW.PrintMore
attribute [local go_sem] max2_int min2_int max_two min_two max_three min_three max_four min_four   -- for this text's walks alone
set_option linter.unusedVariables false
set_option linter.unusedSimpArgs false

/-! ### impl_matches: function 37 -/
mutual
/-- The best pairs and their sum, behind all pairings of those that are left. -/
def impl_matches.f (l : List S33) : Nat → List Int → List S41 → List S41 → Int → Option (List S41 × Int)
  | 0, _, _, _, _ => none
  | k + 1, left, ps, B, m => if left.length = 0 then impl_MatchSingles_1.f l ps B m else impl_matches.l0 l k left ps 1 B m
def impl_matches.l0 (l : List S33) : Nat → List Int → List S41 → Nat → List S41 → Int → Option (List S41 × Int)
  | 0, _, _, _, _, _ => none
  | k + 1, left, ps, x, B, m =>
    if x < left.length then
      (if 1 ≤ x ∧ left.length ≤ 500 ∧ ps.length ≤ 1048576 then
        (impl_matches.f l k ((left.take x).drop 1 ++ left.drop (x + 1)) (ps ++ [⟨rd left 0, rd left (x : Int)⟩]) B m).bind fun r => impl_matches.l0 l k left ps (x + 1) r.1 r.2
      else none)
    else some (B, m)
end
theorem impl_matches.mono_l (l : List S33) : ∀ k, (∀ a b c d, LeO (impl_matches.f l k a b c d) (impl_matches.f l (k + 1) a b c d)) ∧ (∀ a b x c d, LeO (impl_matches.l0 l k a b x c d) (impl_matches.l0 l (k + 1) a b x c d))
  | 0 => ⟨fun _ _ _ _ r h => by simp [impl_matches.f] at h, fun _ _ _ _ _ r h => by simp [impl_matches.l0] at h⟩
  | k + 1 => by
    obtain ⟨ih1, ih2⟩ := impl_matches.mono_l l k
    constructor
    · intro a b c d
      rw [impl_matches.f, impl_matches.f]
      repeat' first
        | exact ih2 _ _ _ _ _
        | (with_reducible exact LeO.refl _)
        | (with_reducible refine LeO.ite ?_ ?_)
        | (with_reducible refine LeO.bind ?_ (fun _ => ?_))
    · intro a b x c d
      rw [impl_matches.l0, impl_matches.l0]
      repeat' first
        | exact ih1 _ _ _ _
        | exact ih2 _ _ _ _ _
        | (with_reducible exact LeO.refl _)
        | (with_reducible refine LeO.ite ?_ ?_)
        | (with_reducible refine LeO.bind ?_ (fun _ => ?_))
theorem impl_matches.info : (Try.prog.info? 2).map (fun i => (i.zero, i.size, i.bytes)) = some (some (.int .i64 0), 1, 8) := by kernel_rfl
theorem impl_matches.info2 : (Try.prog.info? 41).map (fun i => (i.zero, i.size, i.bytes)) = some (some (.agg #[(.int .i64 0), (.int .i64 0)]), 2, 16) := by kernel_rfl
/-- What lies before an index, but for the first one. -/
theorem impl_matches.mid (left : List Int) (A : Option Addr) (c x : Nat) (h1 : 1 ≤ x) (hx : x ≤ left.length) (hc : left.length ≤ c) :
    ∃ A' c', (∀ W : World, (Instr.slice 46 (.slice A left.length c) (some (.int .i64 1)) (some (.int .i64 (x : Int))) none).run Try.prog W = .ok (.slice A' ((left.take x).drop 1).length c') W) ∧ (∀ w : World, Kd.C (Kd.int .i64) w A left.length left → Kd.C (Kd.int .i64) w A' ((left.take x).drop 1).length ((left.take x).drop 1)) := by
  obtain ⟨i0, hi, _, hs, _⟩ := info_parts impl_matches.info
  obtain ⟨A', a, b, _⟩ := print_mid_of (P := Try.prog) (Value.int .i64) (0 : Int) 46 2 .i64 .i64 Try.underlying46 hi hs A c left 1 (x : Int) (by omega) (by omega) (by omega) hc
  rw [Int.toNat_natCast] at a b
  exact ⟨A', _, a, fun w h => Kd.C_of_reads (h1 := fun _ => rfl) (b w (Kd.reads_of_C (h1 := fun _ => rfl) h))⟩
/-- What lies behind an index. -/
theorem impl_matches.fro (left : List Int) (A : Option Addr) (c x : Nat) (hx : x + 1 ≤ left.length) (hc : left.length ≤ c) :
    ∃ A' c', (∀ W : World, (Instr.slice 46 (.slice A left.length c) (some (.int .i64 ((x + 1 : Nat) : Int))) none none).run Try.prog W = .ok (.slice A' (left.drop (x + 1)).length c') W) ∧ (∀ w : World, Kd.C (Kd.int .i64) w A left.length left → Kd.C (Kd.int .i64) w A' (left.drop (x + 1)).length (left.drop (x + 1))) := by
  obtain ⟨i0, hi, _, hs, _⟩ := info_parts impl_matches.info
  obtain ⟨A', a, b, _⟩ := print_drop_of (P := Try.prog) (Value.int .i64) (0 : Int) 46 2 .i64 Try.underlying46 hi hs A c left ((x + 1 : Nat) : Int) (by omega) (by omega) hc
  rw [Int.toNat_natCast] at a b
  exact ⟨A', _, a, fun w h => Kd.C_of_reads (h1 := fun _ => rfl) (b w (Kd.reads_of_C (h1 := fun _ => rfl) h))⟩
/-- A literal row of one pair. -/
theorem impl_matches.lit {W : World} {h : Nat} (a b : Int) (hh : W.heap[h]? = some (.cells #[.int .i64 a, .int .i64 b] 41 (0, 0))) : Kd.C k41 W (some ⟨h, 0, none⟩) 1 [⟨a, b⟩] := by
  refine ⟨rfl, by omega, fun _ => ⟨_, rfl, fun j p hj => ?_⟩⟩
  obtain rfl : j = 0 := by
    rcases Nat.eq_zero_or_pos j with h0 | h0
    · exact h0
    · rw [List.getElem?_eq_none (by simp; omega)] at hj; cases hj
  obtain rfl : (⟨a, b⟩ : S41) = p := by simpa using hj
  refine ⟨_, rfl, k41_mk W ⟨a, b⟩, fun i u hi => ?_⟩
  have e0 := (blk_cell hh 0).trans (rfl : _ = some (Value.int .i64 a))
  have e1 := (blk_cell hh 1).trans (rfl : _ = some (Value.int .i64 b))
  match i, hi with
  | 0, hi => simp at hi; subst hi; simpa [Addr.add] using e0
  | 1, hi => simp at hi; subst hi; simpa [Addr.add, k41, Kd.iso, Kd.pair, Kd.int, Kd.scalar] using e1
  | n + 2, hi => simp at hi
theorem impl_matches.keepA {w : World} {o : Obj} {a : Addr} {v : Value} (h : w.cell? a = some v) : (w.alloc o).cell? a = some v :=
  (((Below.refl w.heap.size w).alloc (Nat.le_refl _) o).cell (World.block_lt_of_cell? w a h)).trans h
theorem impl_matches.keepD {w : World} {a : Addr} {v : Value} (h : w.cell? a = some v) : w.drew.cell? a = some v := h
theorem impl_matches.keepNN {w : World} {n : Nat} {a : Addr} {v : Value} (h : w.cell? a = some v) : (w.drewN n).cell? a = some v :=
  ((pw_below_drewN (Below.refl w.heap.size w) n).cell (World.block_lt_of_cell? w a h)).trans h
theorem impl_matches.top {w : World} {o : Obj} {g : Nat} (h : g = w.heap.size) : (w.alloc o).heap[g]? = some o := by
  subst h; exact blk_new w o
theorem impl_matches.app {ops : Array Oper} {o : Oper} {a : Act} {Q : Exit → Act → World → Prop} {Kc : Act → World → Prop} {w0 W : World} (hw : Region.wanted o (yielded ops a.tmps) = true) (s x : Operand) (ho : o.op = .call { callee := .builtin .append, args := #[s, x], argTypes := #[36, 36] }) (v : Value) (xs ys : List S41) (A : Option Addr) (m c : Nat) (hs : a.eval s = v) (hx : a.eval x = .slice A m c)
    (HO : Kd.R k41 41 W w0.heap.size (fun _ => True) v xs) (HR : Kd.C k41 W A m ys) (HB : Below w0.heap.size w0 W) (hl : xs.length + m ≤ 1048600)
    (h : ∀ v1 w1, Kd.R k41 41 w1 w0.heap.size (fun _ => True) v1 (xs ++ ys) → Below w0.heap.size w0 w1 → W.grownBy w1 v.ownBlock → Kc (a.put o.dst v1) w1) :
    if Region.wanted o (yielded ops a.tmps) = true then Oper.wp Try.prog o a W Kc Q else Kc (a.put o.dst undef) W := by
  refine Kd.R_append_rows_step k41 (w0 := w0) w0.heap.size hw s x 36 41 (.agg #[(.int .i64 0), (.int .i64 0)]) 16 ho Try.underlying36 impl_matches.info2 rfl (by decide) (by omega) v xs ys A m c (fun _ => True) (fun _ => False) hs hx HO HR (fun _ _ h => h) (fun _ h => h.elim) (fun _ _ => trivial) HB HB.size (by omega) ?_
  intro v1 w1 ho hb hg hat
  exact h v1 w1 ho hb hg
/-- A row that is new: none of its blocks is one of the two boxes'. -/
theorem impl_matches.new {α : Type} {d : Kd α} {e base gm gb : Nat} {ok : Nat → Prop} {w W : World} {v : Value} {xs : List α} (h : Kd.R d e W base ok v xs) (h1 : gm < base) (h2 : gb < base) (hb : w.heap.size ≤ base) : Kd.R d e W w.heap.size (fun k => k ≠ gm ∧ k ≠ gb) v xs :=
  Kd.R_lower (Kd.R_mono (Kd.R_bound h) (fun k hk => ⟨by have := hk.2.1; omega, by have := hk.2.1; omega⟩)) hb
theorem impl_matches.Fr_cell {gm gb : Nat} {W W' : World} (hf : impl_MatchSingles_1.Fr gm gb W W') {a : Addr} {v : Value} (h : W.cell? a = some v) (h1 : a.block ≠ gm) (h2 : a.block ≠ gb) : W'.cell? a = some v :=
  (World.cell?_of_block (hf.2 a.block (World.block_lt_of_cell? W a h) h1 h2)).trans h
set_option maxHeartbeats 8000000 in
set_option maxRecDepth 100000 in
theorem impl_matches.calls (w : World) (A0 : Option Addr) (c0 : Nat) (l : List S33) (gL gm gb : Nat) (hC : Kd.C k33 w A0 l.length l) : ∀ (k : Nat) (left : List Int) (ps B : List S41) (m : Int) (vl vp vB : Value) (W : World) (r1 : List S41) (r2 : Int), impl_MatchSingles_1.Inv w W A0 c0 l gL gm gb B m vB → Kd.R (Kd.int .i64) 2 W w.heap.size (fun k => k ≠ gm ∧ k ≠ gb) vl left → Kd.R k41 41 W w.heap.size (fun k => k ≠ gm ∧ k ≠ gb) vp ps → impl_matches.f l k left ps B m = some (r1, r2) →
    Calls Try.prog 37 #[vl, vp, .func (.func 39) #[] #[.pointer (some ⟨gL, 0, none⟩), .pointer (some ⟨gm, 0, none⟩), .pointer (some ⟨gb, 0, none⟩)]] W fun e W' => e = .returned (.tuple #[]) ∧ (∃ v2, impl_MatchSingles_1.Inv w W' A0 c0 l gL gm gb r1 r2 v2) ∧ impl_MatchSingles_1.Fr gm gb W W' := by
 intro k
 have HCC := Aside0.mk hC
 clear hC
 induction k using Nat.strongRecOn with
 | _ k IH =>
 intro left ps B m vl vp vB W r1 r2 hI hl hp h
 cases k with
 | zero => simp [impl_matches.f] at h
 | succ k =>
  have IHa := Aside0.mk IH
  clear IH
  rw [impl_matches.f] at h
  obtain ⟨Al, cl, el⟩ := Kd.R_slice hl
  subst el
  obtain ⟨Ap, cp, ep⟩ := Kd.R_slice hp
  subst ep
  have HI := Aside0.mk hI
  have HL := Aside0.mk hl
  have HP := Aside0.mk hp
  clear hI hl hp
  by_cases hz : left.length = 0
  · rw [if_pos hz] at h
    have HF := Aside0.mk h
    have eg := impl_MatchSingles_1.eg
    have hz1 : ((left.length : Int) == 0) = true := beq_iff_eq.mpr (by omega)
    clear h
    go_enter Try.func37, Try.ntmps37
    go_wp2_with (go_at_fn 39; refine (impl_MatchSingles_1.calls w A0 c0 l gL gm gb HCC.out ps B r1 m r2 vB _ W HI.out HP.out HF.out).mono ?_; rintro e w2 ⟨rfl, hv2, hfr⟩; have HV2 := Aside0.mk hv2; have HFR := Aside0.mk hfr; clear hv2 hfr)
    refine bodyPost_ret (results_none rfl _ _ _) rfl ⟨rfl, HV2.out, HFR.out⟩
  rw [if_neg hz] at h
  have hz1 : ((left.length : Int) == 0) = false := beq_eq_false_iff_ne.mpr (by omega)
  have HF := Aside0.mk h
  have HB0 := Aside0.mk (Below.refl W.heap.size W)
  clear h
  go_enter Try.func37, Try.ntmps37
  go_wp2
  go_loopg [6] k (fun gq v6 W2 => ∃ (x : Nat) (B1 : List S41) (m1 : Int) (vB1 : Value), v6 = .int .i64 (x : Int) ∧ Aside0 (impl_matches.l0 l gq left ps x B1 m1 = some (r1, r2)) ∧ Aside0 (gq ≤ k) ∧ Aside0 (impl_MatchSingles_1.Inv w W2 A0 c0 l gL gm gb B1 m1 vB1) ∧ Aside0 (impl_MatchSingles_1.Fr gm gb W W2))
  case atStart => exact ⟨1, B, m, vB, rfl, HF, ⟨Nat.le_refl _⟩, HI, ⟨impl_MatchSingles_1.Fr.of_below HB0.out⟩⟩
  case round =>
  clear HF HI HB0
  obtain ⟨x, B1, m1, vB1, rfl, HF, HK, HI, HFR⟩ := hrel
  cases gk with
  | zero => exact absurd HF.out (by simp [impl_matches.l0])
  | succ g =>
   have H := HF.out
   rw [impl_matches.l0] at H
   clear HF
   by_cases hx : x < left.length
   rotate_left
   · rw [if_neg hx] at H
     have e := Option.some.inj H
     simp only [Prod.mk.injEq] at e
     obtain ⟨rfl, rfl⟩ := e
     have d1 : decide ((x : Int) < (left.length : Int)) = false := decide_eq_false (by omega)
     clear H
     go_wp2
     refine bodyPost_end (results_none rfl _ _ _) rfl ⟨rfl, ⟨vB1, HI.out⟩, HFR.out⟩
   rw [if_pos hx] at H
   by_cases hg : 1 ≤ x ∧ left.length ≤ 500 ∧ ps.length ≤ 1048576
   rotate_left
   · rw [if_neg hg] at H; cases H
   rw [if_pos hg] at H
   obtain ⟨g1, g2, g3⟩ := hg
   obtain ⟨⟨B2, m2⟩, hrec, H⟩ := Option.bind_eq_some_iff.mp H
   simp only at H
   have HRec := Aside0.mk hrec
   have HF := Aside0.mk H
   clear H hrec
   have d1 : decide ((x : Int) < (left.length : Int)) = true := decide_eq_true (by omega)
   have hLr := HFR.out.row HL.out
   have hPr := HFR.out.row HP.out
   have HLr := Aside0.mk hLr
   have HPr := Aside0.mk hPr
   have hcl : left.length ≤ cl := (Kd.R_reads' hLr).2.1
   obtain ⟨A1, c1, hcut1, hC1⟩ := impl_matches.mid left Al cl x g1 (by omega) hcl
   obtain ⟨A2, c2, hcut2, hC2⟩ := impl_matches.fro left Al cl x (by omega) hcl
   have HC1 := Aside0.mk (hC1 _ (Kd.R_reads' hLr).2.2)
   have HC2 := Aside0.mk (hC2 _ (Kd.R_reads' hLr).2.2)
   have HLen : Aside0 (((left.take x).drop 1).length + (left.drop (x + 1)).length ≤ 1000) := ⟨by simp [List.length_take]; omega⟩
   obtain ⟨gl, capl, evl, hgl0, hgl1, _⟩ := Kd.R_form hLr (by omega)
   injection evl with ea _ ec
   subst ea
   subst ec
   have GL : Aside0 (gl ≠ gm ∧ gl ≠ gb ∧ gl < wr.heap.size) := ⟨⟨(hLr.1 gl (by simp [Value.ownBlock])).1, (hLr.1 gl (by simp [Value.ownBlock])).2, hgl1⟩⟩
   have HMG : Aside0 (gm < wr.heap.size ∧ gb < wr.heap.size ∧ w.heap.size ≤ wr.heap.size) := ⟨⟨blk_lt HI.out.hm, blk_lt HI.out.hb, HI.out.b.size⟩⟩
   clear hLr hPr hC1 hC2 hgl0 hgl1
   have hwx : IntKind.i64.wrap ((x : Int) + 1) = (x : Int) + 1 := by rw [impl_MatchSingles_1.wr64]; unfold wrap64; omega
   have hwy : wrap64 ((x : Int) + 1) = (x : Int) + 1 := by unfold wrap64; omega
   replace hcut2 : ∀ W : World, (Instr.slice 46 (.slice (some ⟨gl, 0, none⟩) left.length cl) (some (.int .i64 ((x : Int) + 1))) none none).run Try.prog W = .ok (.slice A2 (left.drop (x + 1)).length c2) W := hcut2
   generalize hD1 : (left.take x).drop 1 = D1 at *
   generalize hD2 : left.drop (x + 1) = D2 at *
   clear hD1 hD2
   go_upto_region 5 with (fail)
   go_cut [6, 7] (fun v6 v7 wc => v6 = .int .i64 (x : Int) ∧ Aside0 (Kd.R (Kd.int .i64) 2 wc wr.heap.size (fun k => wr.heap.size ≤ k) v7 (D1 ++ D2)) ∧ Aside0 (Below wr.heap.size wr wc))
   case first =>
    as_aux_lemma =>
    go_region_held3 (fun _ => True) (trivial) (first | (go_at_call 59; refine (slices_Concat.two D1 D2 ⟨wr.heap.size, 0, none⟩ A1 A2 c1 c2 _ ?cx ?cy ?cA ?cB HLen.out).mono ?_; (case cx => first | exact (blk_cell (impl_matches.top rfl) 0).trans rfl | exact impl_matches.keepD ((blk_cell (impl_matches.top rfl) 0).trans rfl)); (case cy => first | exact (blk_cell (impl_matches.top rfl) 1).trans rfl | exact impl_matches.keepD ((blk_cell (impl_matches.top rfl) 1).trans rfl)); (case cA => exact (Kd.C_below HC1.out (by (repeat (first | exact Below.refl _ _ | (with_reducible refine below_drew1 ?_) | (with_reducible refine below_alloc ?_ _) | (with_reducible refine pw_below_drewN ?_ _)))))); (case cB => exact (Kd.C_below HC2.out (by (repeat (first | exact Below.refl _ _ | (with_reducible refine below_drew1 ?_) | (with_reducible refine below_alloc ?_ _) | (with_reducible refine pw_below_drewN ?_ _)))))); rintro e w7 ⟨v7, rfl, hr7, hb7⟩; have HR7 := Aside0.mk (Kd.R_mono (Kd.R_lower hr7 (below_size (w := wr) (by (repeat (first | exact Below.refl _ _ | (with_reducible refine below_drew1 ?_) | (with_reducible refine below_alloc ?_ _) | (with_reducible refine pw_below_drewN ?_ _)))))) (fun k hk => Nat.le_trans (below_size (w := wr) (by (repeat (first | exact Below.refl _ _ | (with_reducible refine below_drew1 ?_) | (with_reducible refine below_alloc ?_ _) | (with_reducible refine pw_below_drewN ?_ _))))) hk)); have HB7 := Aside0.mk (below_then (B := wr.heap.size) (w := wr) (by (repeat (first | exact Below.refl _ _ | (with_reducible refine below_drew1 ?_) | (with_reducible refine below_alloc ?_ _) | (with_reducible refine pw_below_drewN ?_ _)))) (below_size (w := wr) (by (repeat (first | exact Below.refl _ _ | (with_reducible refine below_drew1 ?_) | (with_reducible refine below_alloc ?_ _) | (with_reducible refine pw_below_drewN ?_ _))))) hb7); clear hr7 hb7))
    all_goals
     (try go_wp2)
     go_meet
     case rel => exact ⟨rfl, HR7, HB7⟩
   case rest =>
   as_aux_lemma =>
   clear HC1 HC2 hcut1 hcut2
   obtain ⟨rfl, HR7, HB7⟩ := hcut
   have hLw := Kd.R_below HLr.out HB7.out
   have hPw := Kd.R_below HPr.out HB7.out
   have HPC := Aside0.mk (Kd.R_reads' hPw).2.2
   have HPc := Aside0.mk (Kd.R_reads' hPw).2.1
   have HPl := Aside0.mk g3
   have HPf : Aside0 (slices_Clone_2_int64_2_int64.f ps = some ps) := ⟨if_pos (by omega)⟩
   have hq0 : wc.cell? ⟨gl, 0, none⟩ = some (.int .i64 (rd left 0)) := (Kd.R_celln (0 : Int) hLw 0 (by omega) (by omega)).1
   have hqx : wc.cell? ⟨gl, x, none⟩ = some (.int .i64 (rd left (x : Int))) := (Kd.R_celln (0 : Int) hLw (x : Int) (by omega) (by omega)).1
   have hlt : gl < wc.heap.size := Nat.lt_of_lt_of_le GL.out.2.2 (below_size HB7.out)
   have q0 : (0 : Int) ≤ (x : Int) := by omega
   have qx : (x : Int) < (left.length : Int) := by omega
   have qp : (0 : Int) < (left.length : Int) := by omega
   have qn : 0 < left.length := by omega
   have ql : ¬ left = [] := fun e => by subst e; simp at qn
   have qxn : x < left.length := hx
   clear hLw hPw
   go_upto_region 6 with (fail)
   go_region_held3 (fun w' => w'.cell? ⟨gl, 0, none⟩ = some (.int .i64 (rd left 0)) ∧ w'.cell? ⟨gl, x, none⟩ = some (.int .i64 (rd left (x : Int)))) ((repeat' (with_reducible refine And.intro ?_ ?_)) <;> ((repeat (first | (with_reducible refine impl_matches.keepD ?_) | (with_reducible refine impl_matches.keepA ?_) | (with_reducible refine impl_matches.keepNN ?_))); (try (first | (with_reducible refine HT9.out _ _ ?_) | (with_reducible refine (HB41.out.cell hlt).trans ?_) | (with_reducible refine (HB31.out.cell hlt).trans ?_))); (first | (with_reducible exact hq0) | (with_reducible exact hqx)))) (first | (go_at_call 60; refine (slices_Clone_2_int64_2_int64.calls Ap cp ps ps _ (Kd.C_below HPC.out (by (repeat (first | exact Below.refl _ _ | (with_reducible refine below_drew1 ?_) | (with_reducible refine below_alloc ?_ _) | (with_reducible refine pw_below_drewN ?_ _))))) HPc.out HPf.out).mono ?_; rintro e w31 ⟨v31, rfl, ho31, hb31⟩; have HO31 := Aside0.mk (Kd.R_lower ho31 (below_size (w := wc) (by (repeat (first | exact Below.refl _ _ | (with_reducible refine below_drew1 ?_) | (with_reducible refine below_alloc ?_ _) | (with_reducible refine pw_below_drewN ?_ _)))))); have HG31 := Aside0.mk hb31; have HB31 := Aside0.mk (below_then (B := wc.heap.size) (w := wc) (by (repeat (first | exact Below.refl _ _ | (with_reducible refine below_drew1 ?_) | (with_reducible refine below_alloc ?_ _) | (with_reducible refine pw_below_drewN ?_ _)))) (below_size (w := wc) (by (repeat (first | exact Below.refl _ _ | (with_reducible refine below_drew1 ?_) | (with_reducible refine below_alloc ?_ _) | (with_reducible refine pw_below_drewN ?_ _))))) hb31); clear ho31 hb31) | (refine impl_matches.app (w0 := wc) ?hw (.tmp 31) (.tmp 40) rfl v31 ps [(⟨rd left 0, rd left (x : Int)⟩ : S41)] _ _ _ rfl rfl ?bO ?bR ?bB ?bL ?_; (case hw => rfl); (case bO => exact Kd.R_below HO31.out (by (repeat (first | exact Below.refl _ _ | (with_reducible refine below_drew1 ?_) | (with_reducible refine below_alloc ?_ _) | (with_reducible refine pw_below_drewN ?_ _))))); (case bR => (refine impl_matches.lit _ _ ?_); (first | ((repeat (first | exact impl_matches.top rfl | exact impl_matches.top (by simp) | (with_reducible refine blk_drew ?_) | (with_reducible refine blk_alloc ?_ _))); done) | ((repeat (with_reducible refine blk_drew ?_)); (refine blk_below ?_ HG31.out); ((repeat (first | exact impl_matches.top rfl | exact impl_matches.top (by simp) | (with_reducible refine blk_drew ?_) | (with_reducible refine blk_alloc ?_ _))); done)))); (case bB => exact (by (repeat (first | exact HB31.out | exact Below.refl _ _ | (with_reducible refine below_drew1 ?_) | (with_reducible refine below_alloc ?_ _) | (with_reducible refine pw_below_drewN ?_ _))))); (case bL => have := HPl.out; simp; omega); intro v41 w41 ho hb hg; have HO41 := Aside0.mk ho; have HB41 := Aside0.mk hb; clear ho hb hg) | (go_at_call 37; refine (IHa.out g (by have := HK.out; omega) (D1 ++ D2) (ps ++ [(⟨rd left 0, rd left (x : Int)⟩ : S41)]) B1 m1 _ _ vB1 _ B2 m2 (HI.out.next (below_then HB7.out (below_size HB7.out) (by (repeat (first | exact HB41.out | exact Below.refl _ _ | (with_reducible refine below_drew1 ?_) | (with_reducible refine below_alloc ?_ _) | (with_reducible refine pw_below_drewN ?_ _)))))) (Kd.R_below (impl_matches.new HR7.out HMG.out.1 HMG.out.2.1 HMG.out.2.2) (by (repeat (first | exact HB41.out | exact Below.refl _ _ | (with_reducible refine below_drew1 ?_) | (with_reducible refine below_alloc ?_ _) | (with_reducible refine pw_below_drewN ?_ _))))) (Kd.R_below (impl_matches.new HO41.out (Nat.lt_of_lt_of_le HMG.out.1 (below_size HB7.out)) (Nat.lt_of_lt_of_le HMG.out.2.1 (below_size HB7.out)) (Nat.le_trans HMG.out.2.2 (below_size HB7.out))) (by (repeat (first | exact Below.refl _ _ | (with_reducible refine below_drew1 ?_) | (with_reducible refine below_alloc ?_ _) | (with_reducible refine pw_below_drewN ?_ _))))) HRec.out).mono ?_; rintro e w9 ⟨rfl, hv9, hf9⟩; have HV9 := Aside0.mk hv9; have HF9 := Aside0.mk ((impl_MatchSingles_1.Fr.of_below (gm := gm) (gb := gb) (W := wc) (by (repeat (first | exact HB41.out | exact Below.refl _ _ | (with_reducible refine below_drew1 ?_) | (with_reducible refine below_alloc ?_ _) | (with_reducible refine pw_below_drewN ?_ _))))).trans hf9); have HT9 : Aside0 (∀ (j : Nat) (v : Value), wc.cell? ⟨gl, j, none⟩ = some v → w9.cell? ⟨gl, j, none⟩ = some v) := ⟨fun j v hv => impl_matches.Fr_cell HF9.out hv GL.out.1 GL.out.2.1⟩; clear hv9 hf9))
   all_goals
    obtain ⟨vB2, hI9⟩ := HV9.out
    have HI9 := Aside0.mk hI9
    have HFR9 := Aside0.mk ((HFR.out.trans (impl_MatchSingles_1.Fr.of_below HB7.out)).trans HF9.out)
    clear hI9 HV9 HI HFR HR7 HB7 hq0 hqx HPC HPc HLr HPr HF9 HT9 HO41 HB41 HO31 HB31 HG31
    go_wp2
    go_roundg g
    case measure => omega
    case rel => exact ⟨x + 1, B2, m2, vB2, (by first | rfl | (rw [hwx]; rfl) | (rw [hwy]; rfl)), HF, ⟨by have := HK.out; omega⟩, HI9, HFR9⟩

/-! ### impl_members: function 38 -/
def impl_members.l0 : Nat → Int → List Int → Int → Option (List Int)
  | 0, _, _, _ => none
  | k + 1, x0, x3, x4 => if 0 ≤ x4 then (if (shr .i64 x0 x4) = 0 then (some x3) else (if (Go.bits .and .i64 (shr .i64 x0 x4) 1) = 1 then (if x3.length < 17592186044416 then (impl_members.l0 k x0 (x3 ++ [x4]) (wrap64 (x4 + 1))) else (none)) else (impl_members.l0 k x0 x3 (wrap64 (x4 + 1))))) else (none)
def impl_members.f (k : Nat) (a0 : Int) : Option (List Int) := impl_members.l0 k a0 ([] : List Int) 0
theorem impl_members.mono_l : ∀ k, (∀ y0 y1 y2, LeO (impl_members.l0 k y0 y1 y2) (impl_members.l0 (k + 1) y0 y1 y2))
  | 0 => fun _ _ _ r h => by simp [impl_members.l0] at h
  | k + 1 => by
    have ih0 := impl_members.mono_l k
    · intro y0 y1 y2
      unfold impl_members.l0
      repeat' first
      | (with_reducible exact ih0 _ _ _)
      | (with_reducible exact LeO.refl _)
      | (with_reducible exact LeO.none _)
      | (with_reducible refine LeO.ite ?_ ?_)
      | (with_reducible refine LeO.bind ?_ (fun _ => ?_))
      | (with_reducible refine allG_mono _ (fun _ => ?_))
      | (with_reducible refine idxG_mono _ (fun _ => ?_))
      | exact ih0 _ _ _
      | exact LeO.none _
      | refine LeO.ite ?_ ?_
      | refine LeO.bind ?_ (fun _ => ?_)
theorem impl_members.mono : ∀ a0 k, LeO (impl_members.f k a0) (impl_members.f (k + 1) a0) := by
  intro a0 k
  have ih0 := impl_members.mono_l k
  unfold impl_members.f
  repeat' first
      | (with_reducible exact ih0 _ _ _)
      | (with_reducible exact LeO.refl _)
      | (with_reducible exact LeO.none _)
      | (with_reducible refine LeO.ite ?_ ?_)
      | (with_reducible refine LeO.bind ?_ (fun _ => ?_))
      | (with_reducible refine allG_mono _ (fun _ => ?_))
      | (with_reducible refine idxG_mono _ (fun _ => ?_))
      | exact ih0 _ _ _
      | exact LeO.none _
      | refine LeO.ite ?_ ?_
      | refine LeO.bind ?_ (fun _ => ?_)
set_option maxHeartbeats 8000000 in
set_option maxRecDepth 100000 in
theorem impl_members.calls (k : Nat) (a0 : Int) (r : List Int) (w : World) (h : impl_members.f k a0 = some r) :
    Calls Try.prog 38 #[.int .i64 a0] w fun e w' => ∃ v0_ : Value, e = .returned (v0_) ∧ Kd.R (Kd.int .i64) 2 w' w.heap.size (fun _ => True) v0_ r ∧ Below w.heap.size w w' := by
 have HB := Aside0.mk (Below.refl w.heap.size w)
 have H : (impl_members.l0 k a0 ([] : List Int) 0) = some r := h
 clear h
 have H' := Aside0.mk H
 clear H
 go_enter Try.func38, Try.ntmps38
 go_wp2
 go_loopg [3, 4] k (fun kq v3 v4 w' => ∃ (x3_1 : List Int) (x4_1 : Int), v4 = .int .i64 x4_1 ∧ Aside0 (impl_members.l0 kq a0 x3_1 x4_1 = some r) ∧ Aside0 (kq ≤ k) ∧ Aside0 (Kd.R (Kd.int .i64) 2 w' w.heap.size (fun _ => True) v3 x3_1) ∧ Aside0 (Below w.heap.size w w'))
 case atStart => exact ⟨(([] : List Int)), (0), zx, H', ⟨Nat.le_refl _⟩, ⟨by first | exact Kd.R_nil _ _ _ _ _ | exact Kd.N_nil _ _ _ _ _ | exact Kd.V_nil _ _ _ _ _ | exact Kd.Q_nil _ _ _ _ _ | exact Kd.S_nil _ _ _ _ _⟩, ⟨zb HB.out⟩⟩
 case round =>
 clear H'
 obtain ⟨x3_1, x4_1, rfl, HA, HK1, HO_3, HB⟩ := hrel
 cases gk with
 | zero => exact absurd HA.out (by simp [impl_members.l0])
 | succ k1 =>
  have H := HA.out
  clear HA
  simp only [impl_members.l0] at H
  by_cases c2 : 0 ≤ x4_1
  rotate_left
  · rw [if_neg c2] at H
    exact absurd H (by simp)
  rw [if_pos c2] at H
  have c2b0 := eq_true c2
  have c2b1 : decide (0 ≤ x4_1) = true := decide_eq_true c2
  clear c2
  obtain ⟨ji3, hji3⟩ : ∃ j_ : Int, (shr .i64 a0 x4_1) = j_ := ⟨_, rfl⟩
  replace H : (if (ji3) = 0 then (some x3_1) else (if (Go.bits .and .i64 (ji3) 1) = 1 then (if x3_1.length < 17592186044416 then (impl_members.l0 k1 a0 (x3_1 ++ [x4_1]) (wrap64 (x4_1 + 1))) else (none)) else (impl_members.l0 k1 a0 x3_1 (wrap64 (x4_1 + 1))))) = some r := by first | (rw [hji3] at H; exact H) | (simp only [hji3] at H ⊢; exact H)
  have hji3_ : (a0 / 2 ^ min x4_1.toNat 64) = ji3 := hji3
  have hji3z : x4_1 ≤ 64 → (a0 / 2 ^ x4_1.toNat) = ji3 := shr_small hji3
  by_cases c4 : (ji3) = 0
  · rw [if_pos c4] at H
    have c4b0 : ((ji3) == 0) = true := beq_iff_eq.mpr c4
    have c4b1 : ((ji3) != 0) = false := bne_eq_false_iff_eq.mpr c4
    clear c4
    obtain rfl := Option.some.inj H
    go_wp2
    go_ret
    exact ⟨_, by first | rfl | (simp [errW_none, errW_some] <;> rfl) | (simp only [← hji3]; first | rfl | (simp [errW_none, errW_some] <;> rfl)) | (simp [*, errW_none, errW_some] <;> rfl), zw HO_3.out, zb HB.out⟩
  rw [if_neg c4] at H
  have c4b0 : ((ji3) == 0) = false := beq_eq_false_iff_ne.mpr c4
  have c4b1 : ((ji3) != 0) = true := bne_iff_ne.mpr c4
  have c5b0 := eq_true (zd : 0 ≤ x4_1)
  by_cases c7 : (Go.bits .and .i64 (ji3) 1) = 1
  rotate_left
  · rw [if_neg c7] at H
    have c7b0 : ((Go.bits .and .i64 (ji3) 1) == 1) = false := beq_eq_false_iff_ne.mpr c7
    have c7b1 : ((Go.bits .and .i64 (ji3) 1) != 1) = true := bne_iff_ne.mpr c7
    have H' := Aside0.mk H
    clear H
    go_wp2
    go_roundg k1
    case measure => have := HK1.out; omega
    case rel => exact ⟨(x3_1), (wrap64 (x4_1 + 1)), zx, H', ⟨by have := HK1.out; omega⟩, ⟨zw HO_3.out⟩, ⟨zb HB.out⟩⟩
  rw [if_pos c7] at H
  have c7b0 : ((Go.bits .and .i64 (ji3) 1) == 1) = true := beq_iff_eq.mpr c7
  have c7b1 : ((Go.bits .and .i64 (ji3) 1) != 1) = false := bne_eq_false_iff_eq.mpr c7
  clear c7
  by_cases c8 : x3_1.length < 17592186044416
  rotate_left
  · rw [if_neg c8] at H
    exact absurd H (by simp)
  rw [if_pos c8] at H
  have LMc8 := Aside0.mk c8
  clear c8
  obtain ⟨y228, hy228⟩ : ∃ y_ : List Int, y_ = (x3_1 ++ [x4_1]) := ⟨_, rfl⟩
  replace H : (impl_members.l0 k1 a0 y228 (wrap64 (x4_1 + 1))) = some r := by first | (rw [hy228]; with_reducible exact H) | (have H2_ := (Option.bind_some _ _).symm.trans H; rw [hy228]; with_reducible exact H2_) | (have H2_ := (Option.bind_some _ _).symm.trans H; with_reducible exact H2_) | with_reducible exact H | (rw [hy228]; exact H) | exact H
  have Ny228 := Aside0.mk hy228
  clear hy228
  have H' := Aside0.mk H
  clear H
  go_wp2_with (first | ((with_reducible refine gate_builtin (b := .append) (xs := #[.tmp 16, .tmp 18]) rfl ?_); at_builtin; refine Kd.R_append (Kd.int .i64) (w0 := w) w.heap.size rfl (.tmp 16) (.tmp 18) 46 2 (.int .i64 0) 8 rfl Try.underlying46 info2 rfl (by decide) (by omega) u3 x3_1 x4_1 [.int .i64 x4_1] (fun _ => True) (fun _ => False) rfl rfl ?aP (fun _ hk => hk.elim) ?aF ?aO ?aB ?aS ?aL ?_; (case aP => exact rfl); (case aB => exact (zb HB.out)); (case aF => exact (fun _ _ => trivial)); (case aO => exact (zw HO_3.out)); (case aS => exact (below_size (zb HB.out))); (case aL => have := LMc8.out; omega); intro v229 w9 ho hb hg hat; rw [← Ny228.out] at ho; have n0_ := Aside0.mk (hb); have n1_ := Aside0.mk (ho); clear HB; (try clear HO_3); have HB := n0_; have HO230 := n1_; clear n0_ n1_; clear ho hb hg hat))
  go_roundg k1
  case measure => have := HK1.out; omega
  case rel => exact ⟨(y228), (wrap64 (x4_1 + 1)), zx, H', ⟨by have := HK1.out; omega⟩, ⟨zw HO230.out⟩, ⟨zb HB.out⟩⟩

/-! ### impl_MatchSingles: function 15 -/
def impl_MatchSingles.f (k : Nat) (l0 : List S33) : Option (List S41 × Int × Int) :=
  (impl_yarnsCode.f l0 true).bind fun c =>
    if c = 0 then (if l0.length % 2 = 1 then some ([], 0, 4)
      else if l0.length ≤ 20 then (impl_members.f k (wrap64 (shl .i64 1 (l0.length : Int) - 1))).bind fun left => (impl_matches.f l0 k left [] [] (-1)).bind fun r => some (r.1, r.2, 0)
      else none)
    else some ([], 0, c)
theorem impl_MatchSingles.mono : ∀ a0 k, LeO (impl_MatchSingles.f k a0) (impl_MatchSingles.f (k + 1) a0) := by
  intro a0 k
  unfold impl_MatchSingles.f
  repeat' first
    | exact (impl_matches.mono_l _ _).1 _ _ _ _
    | exact impl_members.mono _ _
    | (with_reducible exact LeO.refl _)
    | (with_reducible refine LeO.ite ?_ ?_)
    | (with_reducible refine LeO.bind ?_ (fun _ => ?_))
set_option maxHeartbeats 8000000 in
set_option maxRecDepth 100000 in
theorem impl_MatchSingles.calls (k : Nat) (A0 : Option Addr) (c0 : Nat) (l0 : List S33) (r1 : List S41) (r2 r3 : Int) (w : World) (hr0 : Kd.C k33 w A0 l0.length l0) (hc0 : l0.length ≤ c0) (h : impl_MatchSingles.f k l0 = some (r1, r2, r3)) :
    Calls Try.prog 15 #[.slice A0 l0.length c0] w fun e w' => ∃ v0_ : Value, e = .returned (.tuple #[v0_, .int .i64 r2, .int .i64 r3]) ∧ Kd.R k41 41 w' w.heap.size (fun _ => True) v0_ r1 ∧ Below w.heap.size w w' := by
 unfold impl_MatchSingles.f at h
 obtain ⟨c, hc, h⟩ := Option.bind_eq_some_iff.mp h
 have HC := Aside0.mk hc
 have HR := Aside0.mk hr0
 have HC0 := Aside0.mk hc0
 clear hc hr0 hc0
 by_cases hz : c = 0
 rotate_left
 · rw [if_neg hz] at h
   have e := Option.some.inj h
   simp only [Prod.mk.injEq] at e
   obtain ⟨rfl, rfl, rfl⟩ := e
   have hz1 : (c != 0) = true := bne_iff_ne.mpr hz
   clear h
   go_enter Try.func15, Try.ntmps15
   go_wp2_with (first | ((with_reducible refine gate_dst (N := 1) rfl ?_); refine box_event ?hg (N := 1) ?hd (cs := #[.slice A0 l0.length c0]) (t := 24) ?hr ?_; (case hd => rfl); (case hg => rfl); (case hr => first | (go_simp; done) | (go_simp; rfl)); intro gL hgL w1 hL1 hb1; have BL := Aside0.mk hL1; have B1 := Aside0.mk hb1; have GL := Aside0.mk hgL; clear hL1 hb1 hgL; have hcL : w1.cell? ⟨gL, 0, none⟩ = some (.slice A0 l0.length c0) := (blk_cell BL.out 0).trans rfl) | (go_at_call 36; refine (impl_yarnsCode.calls A0 c0 l0 true _ _ (Kd.C_below HR.out B1.out) HC0.out HC.out).mono ?_; rintro e w4 ⟨rfl, hb4⟩; have BL4 := Aside0.mk (blk_below BL.out hb4); have B4 := Aside0.mk (below_then B1.out B1.out.size hb4); clear hb4 BL B1 hcL; have hcL : w4.cell? ⟨gL, 0, none⟩ = some (.slice A0 l0.length c0) := (blk_cell BL4.out 0).trans rfl))
   go_ret3
   exact ⟨_, rfl, Kd.R_nil _ _ _ _ _, B4.out⟩
 rw [if_pos hz] at h
 subst hz
 have hz1 : ((0 : Int) != 0) = false := rfl
 by_cases hodd : l0.length % 2 = 1
 · rw [if_pos hodd] at h
   have e := Option.some.inj h
   simp only [Prod.mk.injEq] at e
   obtain ⟨rfl, rfl, rfl⟩ := e
   have ho0 : (l0.length : Int).tmod 2 = 1 := by rw [Int.tmod_eq_emod_of_nonneg (by omega)]; omega
   have ho1 : ((l0.length : Int).tmod 2 == 1) = true := beq_iff_eq.mpr ho0
   clear h
   go_enter Try.func15, Try.ntmps15
   go_wp2_with (first | ((with_reducible refine gate_dst (N := 1) rfl ?_); refine box_event ?hg (N := 1) ?hd (cs := #[.slice A0 l0.length c0]) (t := 24) ?hr ?_; (case hd => rfl); (case hg => rfl); (case hr => first | (go_simp; done) | (go_simp; rfl)); intro gL hgL w1 hL1 hb1; have BL := Aside0.mk hL1; have B1 := Aside0.mk hb1; have GL := Aside0.mk hgL; clear hL1 hb1 hgL; have hcL : w1.cell? ⟨gL, 0, none⟩ = some (.slice A0 l0.length c0) := (blk_cell BL.out 0).trans rfl) | (go_at_call 36; refine (impl_yarnsCode.calls A0 c0 l0 true _ _ (Kd.C_below HR.out B1.out) HC0.out HC.out).mono ?_; rintro e w4 ⟨rfl, hb4⟩; have BL4 := Aside0.mk (blk_below BL.out hb4); have B4 := Aside0.mk (below_then B1.out B1.out.size hb4); clear hb4 BL B1 hcL; have hcL : w4.cell? ⟨gL, 0, none⟩ = some (.slice A0 l0.length c0) := (blk_cell BL4.out 0).trans rfl))
   go_wp2
   go_ret3
   exact ⟨_, rfl, Kd.R_nil _ _ _ _ _, B4.out⟩
 rw [if_neg hodd] at h
 have ho0 : (l0.length : Int).tmod 2 = 0 := by rw [Int.tmod_eq_emod_of_nonneg (by omega)]; omega
 have ho1 : ((l0.length : Int).tmod 2 == 1) = false := beq_eq_false_iff_ne.mpr (by omega)
 by_cases hn : l0.length ≤ 20
 rotate_left
 · rw [if_neg hn] at h; cases h
 rw [if_pos hn] at h
 obtain ⟨left, hleft, h⟩ := Option.bind_eq_some_iff.mp h
 obtain ⟨⟨B2, m2⟩, hm, h⟩ := Option.bind_eq_some_iff.mp h
 have e := Option.some.inj h
 simp only [Prod.mk.injEq] at e
 obtain ⟨rfl, rfl, rfl⟩ := e
 clear h
 obtain ⟨j, hj⟩ : ∃ j_ : Int, (shl .i64 1 (l0.length : Int)) = j_ := ⟨_, rfl⟩
 rw [hj] at hleft
 have hj_ : (IntKind.i64.wrap (1 * 2 ^ min (l0.length : Int).toNat 64)) = j := hj
 have hjz : (l0.length : Int) ≤ 64 → (IntKind.i64.wrap (1 * 2 ^ (l0.length : Int).toNat)) = j := shl_small hj
 have hjp : (IntKind.i64.wrap (1 * 2 ^ min l0.length 64)) = j := hj_
 have hjq : (l0.length : Int) ≤ 64 → (IntKind.i64.wrap (1 * 2 ^ l0.length)) = j := hjz
 have hjr : (IntKind.i64.wrap (2 ^ min l0.length 64)) = j := by have h_ := hjp; rw [Int.one_mul] at h_; exact h_
 have hjs : (l0.length : Int) ≤ 64 → (IntKind.i64.wrap (2 ^ l0.length)) = j := fun hle_ => by have h_ := hjq hle_; rw [Int.one_mul] at h_; exact h_
 have hju : (IntKind.i64.wrap (2 ^ min (l0.length : Int).toNat 64)) = j := by have h_ := hj_; rw [Int.one_mul] at h_; exact h_
 have hjv : (l0.length : Int) ≤ 64 → (IntKind.i64.wrap (2 ^ (l0.length : Int).toNat)) = j := fun hle_ => by have h_ := hjz hle_; rw [Int.one_mul] at h_; exact h_
 have hjy : (wrap64 (1 * 2 ^ min (l0.length : Int).toNat 64)) = j := (i64_w _).symm.trans hj_
 have hjx : (l0.length : Int) ≤ 64 → (wrap64 (1 * 2 ^ (l0.length : Int).toNat)) = j := fun h_ => (i64_w _).symm.trans (hjz h_)
 have hjw : wrap64 (2 ^ l0.length) = j := (impl_MatchSingles_1.wr64 _).symm.trans (hjs (by omega))
 have HLf := Aside0.mk hleft
 have HM := Aside0.mk hm
 clear hleft hm
 have hmf : ∀ (fn : Fn) (first cap : Array Value) (w : World), (Instr.makeFunc fn first cap).run Try.prog w = .ok (.func fn first cap) w := fun _ _ _ _ => rfl
 go_enter Try.func15, Try.ntmps15
 go_upto_region 6 with (first | ((with_reducible refine gate_dst (N := 1) rfl ?_); refine box_event ?hg (N := 1) ?hd (cs := #[.slice A0 l0.length c0]) (t := 24) ?hr ?_; (case hd => rfl); (case hg => rfl); (case hr => first | (go_simp; done) | (go_simp; rfl)); intro gL hgL w1 hL1 hb1; have BL := Aside0.mk hL1; have B1 := Aside0.mk hb1; have GL := Aside0.mk hgL; clear hL1 hb1 hgL; have hcL : w1.cell? ⟨gL, 0, none⟩ = some (.slice A0 l0.length c0) := (blk_cell BL.out 0).trans rfl) | (go_at_call 36; refine (impl_yarnsCode.calls A0 c0 l0 true _ _ (Kd.C_below HR.out B1.out) HC0.out HC.out).mono ?_; rintro e w4 ⟨rfl, hb4⟩; have BL4 := Aside0.mk (blk_below BL.out hb4); have B4 := Aside0.mk (below_then B1.out B1.out.size hb4); clear hb4 BL B1 hcL; have hcL : w4.cell? ⟨gL, 0, none⟩ = some (.slice A0 l0.length c0) := (blk_cell BL4.out 0).trans rfl))
 go_upto_region 8 with (first | ((with_reducible refine gate_dst (N := 6) rfl ?_); refine box_event ?hg (N := 6) ?hd (cs := #[.slice none 0 0]) (t := 36) ?hr ?_; (case hd => rfl); (case hg => rfl); (case hr => first | (go_simp; done) | (go_simp; rfl)); intro gb hgb w6 hb6 hbb; have BB6 := Aside0.mk hb6; have BL6 := Aside0.mk (blk_below BL4.out hbb); have B6 := Aside0.mk (below_then B4.out B4.out.size hbb); have LB := Aside0.mk (show gL < gb by rw [hgb]; exact blk_lt BL4.out); clear BL4 B4 hb6 hbb hgb) | ((with_reducible refine gate_dst (N := 7) rfl ?_); refine box_event ?hg (N := 7) ?hd (cs := #[.int .i64 0]) (t := 2) ?hr ?_; (case hd => rfl); (case hg => rfl); (case hr => first | (go_simp; done) | (go_simp; rfl)); intro gm hgm w7 hm7 hbb; have BM7 := Aside0.mk hm7; have BB7 := Aside0.mk (blk_below BB6.out hbb); have BL7 := Aside0.mk (blk_below BL6.out hbb); have B7 := Aside0.mk (below_then B6.out B6.out.size hbb); have LM := Aside0.mk (show gb < gm by rw [hgm]; exact blk_lt BB6.out); clear BL6 BB6 B6 hm7 hbb hgm; have hcm : w7.cell? ⟨gm, 0, none⟩ = some (.int .i64 0) := (blk_cell BM7.out 0).trans rfl; have hfm := blk_frozen BM7.out 0))
 have LG := Aside0.mk (show w.heap.size ≤ gL by rw [GL.out]; exact Nat.le_refl _)
 have BM8 := Aside0.mk (blk_put (cs := #[.int .i64 0]) BM7.out 0 (.int .i64 (-1)) rfl)
 have BB8 := Aside0.mk (blk_far BB7.out (p := ⟨gm, 0, none⟩) (by have := LM.out; show gb ≠ gm; omega) (.int .i64 (-1)))
 have BL8 := Aside0.mk (blk_far BL7.out (p := ⟨gm, 0, none⟩) (by have := LM.out; have := LB.out; show gL ≠ gm; omega) (.int .i64 (-1)))
 have B8 := Aside0.mk (below_set (g := gm) (j := 0) (v := .int .i64 (-1)) B7.out (by have := LM.out; have := LB.out; have := LG.out; omega))
 clear BM7 BB7 BL7 B7 hcm hfm hcL
 generalize w7.setCell ⟨gm, 0, none⟩ (.int .i64 (-1)) = w8 at *
 have HI : Aside0 (impl_MatchSingles_1.Inv w w8 A0 c0 l0 gL gm gb [] (-1) (.slice none 0 0)) := ⟨B8.out, ⟨LG.out, by have := LG.out; have := LB.out; have := LM.out; omega, by have := LG.out; have := LB.out; omega⟩, ⟨by have := LB.out; have := LM.out; omega, by have := LB.out; omega, by have := LM.out; omega⟩, BL8.out, BM8.out, BB8.out, Kd.R_nil _ _ _ _ _⟩
 have hcL : w8.cell? ⟨gL, 0, none⟩ = some (.slice A0 l0.length c0) := (blk_cell BL8.out 0).trans rfl
 have LMW := Aside0.mk (And.intro (blk_lt BM8.out) (blk_lt BB8.out))
 clear BM8 BB8 BL8
 go_wp2_with (first | (go_at_call 38; refine (impl_members.calls k _ left _ (by first | exact HLf.out | (rw [hjw]; exact HLf.out))).mono ?_; rintro e w9 ⟨v9, rfl, hr9, hb9⟩; have HI9 := Aside0.mk (HI.out.next hb9); have HR9 := Aside0.mk (Kd.R_lower (Kd.R_mono (Kd.R_bound hr9) (fun k hk => (show k ≠ gm ∧ k ≠ gb from ⟨by have := hk.2.1; have := LMW.out.1; omega, by have := hk.2.1; have := LMW.out.2; omega⟩))) B8.out.size); clear hr9 hb9) | (go_at_call 37; refine (impl_matches.calls w A0 c0 l0 gL gm gb HR.out k left [] [] (-1) v9 (.slice none 0 0) (.slice none 0 0) _ B2 m2 HI9.out HR9.out (Kd.R_nil _ _ _ _ _) HM.out).mono ?_; rintro e w10 ⟨rfl, ⟨v10, hI10⟩, _⟩; have HI10 := Aside0.mk hI10; clear hI10 HI HI9 hcL; have hcb : w10.cell? ⟨gb, 0, none⟩ = some v10 := (blk_cell HI10.out.hb 0).trans rfl; have hcm : w10.cell? ⟨gm, 0, none⟩ = some (.int .i64 m2) := (blk_cell HI10.out.hm 0).trans rfl))
 refine wp_region_still_lit (by kernel_rfl) (by kernel_rfl) ?_
 repeat still_step
 refine wpStill_nil ?_
 change Exit.then _ _ _ _ (w10.drewN 1)
 go_wp2
 go_ret3
 exact ⟨_, rfl, Kd.R_mono (Kd.R_drewN HI10.out.rb 1) (fun _ _ => trivial), pw_below_drewN HI10.out.b 1⟩

/-! ### spec_l03Match_from: function 42 -/
/-- The first yarn that has no pair. -/
def spec_l03Match_from.skip : Nat → Int → Nat → Option Nat
  | 0, _, _ => none
  | k + 1, used, a => if a < 60 then (if Go.bits .and .i64 (shr .i64 used (a : Int)) 1 = 1 then spec_l03Match_from.skip k used (a + 1) else some a) else none
mutual
/-- Goes on with the first yarn that has no pair: best, least, found behind it. -/
def spec_l03Match_from.f (R : List Int) (n : Int) : Nat → List S41 → Int → Int → List S41 → Int → Bool → Option (List S41 × Int × Bool)
  | 0, _, _, _, _, _, _ => none
  | k + 1, N, used, sum, B, m, fd =>
    if fd = true ∧ sum ≥ m then some (B, m, fd)
    else if N.length ≤ 1048576 then
      (if 2 * (N.length : Int) = n then some (N, sum, true)
      else (spec_l03Match_from.skip k used 0).bind fun a => spec_l03Match_from.l0 R n k N used sum a (a + 1) B m fd)
    else none
def spec_l03Match_from.l0 (R : List Int) (n : Int) : Nat → List S41 → Int → Int → Nat → Nat → List S41 → Int → Bool → Option (List S41 × Int × Bool)
  | 0, _, _, _, _, _, _, _, _ => none
  | k + 1, N, used, sum, a, b, B, m, fd =>
    if (b : Int) < n then
      (if a < 10 ∧ b < 10 ∧ N.length ≤ 1048576 then
        (if Go.bits .and .i64 (shr .i64 used (b : Int)) 1 = 0 then
          (spec_l03Match_from.f R n k (N ++ [⟨(a : Int), (b : Int)⟩]) (Go.bits .or .i64 (Go.bits .or .i64 used (shl .i64 1 (a : Int))) (shl .i64 1 (b : Int))) (wrap64 (sum + R.getD (a * 10 + b) 0)) B m fd).bind fun r => spec_l03Match_from.l0 R n k N used sum a (b + 1) r.1 r.2.1 r.2.2
        else spec_l03Match_from.l0 R n k N used sum a (b + 1) B m fd)
      else none)
    else some (B, m, fd)
end
theorem spec_l03Match_from.mono_s : ∀ k used a, LeO (spec_l03Match_from.skip k used a) (spec_l03Match_from.skip (k + 1) used a)
  | 0, _, _ => fun r h => by simp [spec_l03Match_from.skip] at h
  | k + 1, used, a => by
    rw [spec_l03Match_from.skip, spec_l03Match_from.skip]
    repeat' first
      | exact spec_l03Match_from.mono_s k _ _
      | (with_reducible exact LeO.refl _)
      | (with_reducible refine LeO.ite ?_ ?_)
theorem spec_l03Match_from.mono_l (R : List Int) (n : Int) : ∀ k, (∀ a b c d e f, LeO (spec_l03Match_from.f R n k a b c d e f) (spec_l03Match_from.f R n (k + 1) a b c d e f)) ∧ (∀ a b c d e f g h, LeO (spec_l03Match_from.l0 R n k a b c d e f g h) (spec_l03Match_from.l0 R n (k + 1) a b c d e f g h))
  | 0 => ⟨fun _ _ _ _ _ _ r h => by simp [spec_l03Match_from.f] at h, fun _ _ _ _ _ _ _ _ r h => by simp [spec_l03Match_from.l0] at h⟩
  | k + 1 => by
    obtain ⟨ih1, ih2⟩ := spec_l03Match_from.mono_l R n k
    constructor
    · intro a b c d e f
      rw [spec_l03Match_from.f, spec_l03Match_from.f]
      repeat' first
        | exact ih2 _ _ _ _ _ _ _ _
        | exact spec_l03Match_from.mono_s _ _ _
        | (with_reducible exact LeO.refl _)
        | (with_reducible refine LeO.ite ?_ ?_)
        | (with_reducible refine LeO.bind ?_ (fun _ => ?_))
    · intro a b c d e f g h
      rw [spec_l03Match_from.l0, spec_l03Match_from.l0]
      repeat' first
        | exact ih1 _ _ _ _ _ _
        | exact ih2 _ _ _ _ _ _ _ _
        | (with_reducible exact LeO.refl _)
        | (with_reducible refine LeO.ite ?_ ?_)
        | (with_reducible refine LeO.bind ?_ (fun _ => ?_))
theorem spec_l03Match_from.info2 : (Try.prog.info? 41).map (fun i => (i.zero, i.size, i.bytes)) = some (some (.agg #[(.int .i64 0), (.int .i64 0)]), 2, 16) := by kernel_rfl
/-- The cells of the search's variable. -/
def spec_l03Match_from.cs (R : List Int) (n : Int) (vB : Value) (m : Int) (fd : Bool) : Array Value := (R.map (Value.int .i64) ++ [.int .i64 n, vB, .int .i64 m, .bool fd]).toArray
section
variable {R : List Int} {n : Int} {vB : Value} {m : Int} {fd : Bool}
theorem spec_l03Match_from.get_r (hl : R.length = 100) (i : Nat) (hi : i < 100) : (spec_l03Match_from.cs R n vB m fd)[i]? = some (.int .i64 (R.getD i 0)) := by
  unfold spec_l03Match_from.cs
  rw [List.getElem?_toArray, List.getElem?_append_left (by simp; omega), List.getElem?_map, List.getElem?_eq_getElem (by omega)]
  simp [List.getD, List.getElem?_eq_getElem (show i < R.length by omega)]
theorem spec_l03Match_from.get_t (hl : R.length = 100) (i : Nat) : (spec_l03Match_from.cs R n vB m fd)[100 + i]? = [.int .i64 n, vB, .int .i64 m, .bool fd][i]? := by
  unfold spec_l03Match_from.cs
  rw [List.getElem?_toArray, List.getElem?_append_right (by simp; omega)]
  simp [hl]
theorem spec_l03Match_from.put_t (hl : R.length = 100) (i : Nat) (v : Value) (t : List Value) (ht : [.int .i64 n, vB, .int .i64 m, .bool fd].set i v = t) : (spec_l03Match_from.cs R n vB m fd).setIfInBounds (100 + i) v = (R.map (Value.int .i64) ++ t).toArray := by
  subst ht
  unfold spec_l03Match_from.cs
  rw [List.setIfInBounds_toArray, List.set_append_right _ _ (by simp; omega)]
  simp [hl]
end
/-- The search's variable. -/
structure spec_l03Match_from.Inv (w W : World) (gw : Nat) (R : List Int) (n : Int) (B : List S41) (m : Int) (fd : Bool) (vB : Value) : Prop where
  b : Below w.heap.size w W
  g : w.heap.size ≤ gw
  rl : R.length = 100
  h : W.heap[gw]? = some (.cells (spec_l03Match_from.cs R n vB m fd) 67 (0, 0))
  rb : Kd.R k41 41 W w.heap.size (fun _ => True) vB B
section
variable {w W W' : World} {gw : Nat} {R : List Int} {n : Int} {B : List S41} {m : Int} {fd : Bool} {vB : Value}
theorem spec_l03Match_from.Inv.next (h : spec_l03Match_from.Inv w W gw R n B m fd vB) (hb : Below W.heap.size W W') : spec_l03Match_from.Inv w W' gw R n B m fd vB :=
  ⟨below_then h.b h.b.size hb, h.g, h.rl, blk_below h.h hb, Kd.R_below h.rb hb⟩
theorem spec_l03Match_from.Inv.cr (h : spec_l03Match_from.Inv w W gw R n B m fd vB) (i : Nat) (hi : i < 100) : W.cell? ⟨gw, i, none⟩ = some (.int .i64 (R.getD i 0)) := (blk_cell h.h i).trans (spec_l03Match_from.get_r h.rl i hi)
theorem spec_l03Match_from.Inv.cn (h : spec_l03Match_from.Inv w W gw R n B m fd vB) : W.cell? ⟨gw, 100, none⟩ = some (.int .i64 n) := (blk_cell h.h 100).trans (spec_l03Match_from.get_t h.rl 0)
theorem spec_l03Match_from.Inv.cb (h : spec_l03Match_from.Inv w W gw R n B m fd vB) : W.cell? ⟨gw, 101, none⟩ = some vB := (blk_cell h.h 101).trans (spec_l03Match_from.get_t h.rl 1)
theorem spec_l03Match_from.Inv.cm (h : spec_l03Match_from.Inv w W gw R n B m fd vB) : W.cell? ⟨gw, 102, none⟩ = some (.int .i64 m) := (blk_cell h.h 102).trans (spec_l03Match_from.get_t h.rl 2)
theorem spec_l03Match_from.Inv.cf (h : spec_l03Match_from.Inv w W gw R n B m fd vB) : W.cell? ⟨gw, 103, none⟩ = some (.bool fd) := (blk_cell h.h 103).trans (spec_l03Match_from.get_t h.rl 3)
/-- New best pairs are stored. -/
theorem spec_l03Match_from.Inv.store (h : spec_l03Match_from.Inv w W gw R n B m fd vB) {v2 : Value} {B2 : List S41} (hr : Kd.R k41 41 W w.heap.size (fun _ => True) v2 B2) (x : Int) :
    spec_l03Match_from.Inv w (((W.setCell ⟨gw, 101, none⟩ v2).setCell ⟨gw, 102, none⟩ (.int .i64 x)).setCell ⟨gw, 103, none⟩ (.bool true)) gw R n B2 x true v2 := by
  have mv : ∀ {V : World} {cs : Array Value} (j : Nat) (u : Value), V.heap[gw]? = some (.cells cs 67 (0, 0)) → Kd.R k41 41 V w.heap.size (fun _ => True) v2 B2 → Kd.R k41 41 (V.setCell ⟨gw, j, none⟩ u) w.heap.size (fun _ => True) v2 B2 := fun j u hb hx => Kd.R_mono (Kd.R_far (p := ⟨gw, j, none⟩) (Kd.R_types hx hb (by decide)) (fun _ hk => hk.2) _) (fun _ _ => trivial)
  have h1 := blk_put (cs' := spec_l03Match_from.cs R n v2 m fd) h.h 101 v2 (spec_l03Match_from.put_t h.rl 1 v2 _ rfl)
  have h2 := blk_put (cs' := spec_l03Match_from.cs R n v2 x fd) h1 102 (.int .i64 x) (spec_l03Match_from.put_t h.rl 2 _ _ rfl)
  have h3 := blk_put (cs' := spec_l03Match_from.cs R n v2 x true) h2 103 (.bool true) (spec_l03Match_from.put_t h.rl 3 _ _ rfl)
  exact ⟨below_set (below_set (below_set h.b h.g) h.g) h.g, h.g, h.rl, h3, mv 103 _ h2 (mv 102 _ h1 (mv 101 _ h.h hr))⟩
end
/-- A row of pairs that is read lies as it lay. -/
theorem spec_l03Match_from.keepC {W W' : World} {g : Nat} {A : Option Addr} {n : Nat} {xs : List S41} (hk : KeepBut W W' g none) (h : Kd.C k41 W A n xs) (hne : ∀ ad, A = some ad → ad.block ≠ g) : Kd.C k41 W' A n xs := by
  obtain ⟨h1, h2, h3⟩ := h
  refine ⟨h1, h2, fun hn => ?_⟩
  obtain ⟨ad, e, hc⟩ := h3 hn
  refine ⟨ad, e, fun j p hj => ?_⟩
  obtain ⟨c, a, b, d⟩ := hc j p hj
  obtain rfl := k41_open b
  exact ⟨_, a, k41_mk W' p, fun i u hi => keep_cell hk (d i u hi) (by have q := hne ad e; unfold Addr.add; split <;> exact q)⟩
/-- A literal row of one pair. -/
theorem spec_l03Match_from.lit {W : World} {h : Nat} (a b : Int) (hh : W.heap[h]? = some (.cells #[.int .i64 a, .int .i64 b] 41 (0, 0))) : Kd.C k41 W (some ⟨h, 0, none⟩) 1 [⟨a, b⟩] := by
  refine ⟨rfl, by omega, fun _ => ⟨_, rfl, fun j p hj => ?_⟩⟩
  obtain rfl : j = 0 := by
    rcases Nat.eq_zero_or_pos j with h0 | h0
    · exact h0
    · rw [List.getElem?_eq_none (by simp; omega)] at hj; cases hj
  obtain rfl : (⟨a, b⟩ : S41) = p := by simpa using hj
  refine ⟨_, rfl, k41_mk W ⟨a, b⟩, fun i u hi => ?_⟩
  have e0 := (blk_cell hh 0).trans (rfl : _ = some (Value.int .i64 a))
  have e1 := (blk_cell hh 1).trans (rfl : _ = some (Value.int .i64 b))
  match i, hi with
  | 0, hi => simp at hi; subst hi; simpa [Addr.add] using e0
  | 1, hi => simp at hi; subst hi; simpa [Addr.add, k41, Kd.iso, Kd.pair, Kd.int, Kd.scalar] using e1
  | n + 2, hi => simp at hi
theorem spec_l03Match_from.wr64 (n : Int) : IntKind.i64.wrap n = wrap64 n := by
  have e1 : (2 : Int) ^ IntKind.i64.bits = 18446744073709551616 := by decide
  have e2 : (2 : Int) ^ (IntKind.i64.bits - 1) = 9223372036854775808 := by decide
  have e3 : IntKind.i64.signed = true := rfl
  unfold IntKind.wrap wrap64
  simp only [e1, e2, e3, Bool.true_and, decide_eq_true_eq]
  split <;> omega
set_option maxHeartbeats 8000000 in
set_option maxRecDepth 100000 in
theorem spec_l03Match_from.calls (w : World) (gw : Nat) (R : List Int) (n : Int) : ∀ (k : Nat) (An : Option Addr) (cn : Nat) (N : List S41) (used sum : Int) (B : List S41) (m : Int) (fd : Bool) (vB : Value) (W : World) (r1 : List S41) (r2 : Int) (r3 : Bool), spec_l03Match_from.Inv w W gw R n B m fd vB → Kd.C k41 W An N.length N → N.length ≤ cn → (∀ ad, An = some ad → ad.block ≠ gw) → spec_l03Match_from.f R n k N used sum B m fd = some (r1, r2, r3) →
    Calls Try.prog 42 #[.pointer (some ⟨gw, 0, none⟩), .slice An N.length cn, .int .i64 used, .int .i64 sum] W fun e w' => e = .returned (.tuple #[]) ∧ KeepBut W w' gw none ∧ ∃ vB2, spec_l03Match_from.Inv w w' gw R n r1 r2 r3 vB2 := by
 intro k
 have hu1 := Try.underlying67
 induction k using Nat.strongRecOn with
 | _ k IH =>
 intro An cn N used sum B m fd vB W r1 r2 r3 hI hN hcn hne h
 cases k with
 | zero => simp [spec_l03Match_from.f] at h
 | succ k =>
  have IHa := Aside0.mk IH
  clear IH
  rw [spec_l03Match_from.f] at h
  have hqn := hI.cn
  have hqm := hI.cm
  have hqf := hI.cf
  have HI := Aside0.mk hI
  have HN := Aside0.mk hN
  have HCN := Aside0.mk hcn
  have HNE := Aside0.mk hne
  clear hI hN hcn hne
  by_cases h1 : fd = true ∧ sum ≥ m
  · rw [if_pos h1] at h
    have e := Option.some.inj h
    simp only [Prod.mk.injEq] at e
    obtain ⟨rfl, rfl, rfl⟩ := e
    obtain ⟨rfl, h1b⟩ := h1
    have d3 : decide (m ≤ sum) = true := decide_eq_true h1b
    clear h
    go_enter Try.func42, Try.ntmps42
    go_wp2
    refine bodyPost_ret (results_none rfl _ _ _) rfl ⟨rfl, KeepBut.refl _ _ _, vB, HI.out⟩
  rw [if_neg h1] at h
  by_cases h3 : N.length ≤ 1048576
  rotate_left
  · rw [if_neg h3] at h; cases h
  rw [if_pos h3] at h
  have hw2 : wrap64 (2 * (N.length : Int)) = 2 * (N.length : Int) := by unfold wrap64; omega
  have H3 := Aside0.mk h3
  by_cases h2 : 2 * (N.length : Int) = n
  · rw [if_pos h2] at h
    have e := Option.some.inj h
    simp only [Prod.mk.injEq] at e
    obtain ⟨rfl, rfl, rfl⟩ := e
    have e1 : (2 * (N.length : Int) == n) = true := beq_iff_eq.mpr h2
    have HH2 := Aside0.mk h2
    clear h h3 h2
    cases fd with
    | false =>
     clear h1
     go_enter Try.func42, Try.ntmps42
     go_wp2_with (first | ((with_reducible refine gate_dst (N := 32) rfl ?_); refine Kd.R_lit k41 _ 41 ?hg (N := 32) ?hd (xs := ([] : List S41)) (inner := []) (ok := fun _ => True) (okp := fun _ => True) ?hr ?hp (fun _ hk => hk) trivial (Below.refl _ _) (Nat.le_refl _) (by simp) ?_; (case hd => rfl); (case hg => rfl); (case hr => first | (go_simp; done) | (go_simp; rfl)); (case hp => exact (Reps.none _ _)); intro v32 w3 ho3 hb3 hg_ hnew_; have HO3 := Aside0.mk ho3; have HB3 := Aside0.mk hb3; clear ho3 hb3 hg_ hnew_) | ((with_reducible refine gate_builtin (b := .append) (xs := #[.tmp 32, .tmp 33]) rfl ?_); at_builtin; refine Kd.R_append_rows k41 (w0 := W) W.heap.size rfl (.tmp 32) (.tmp 33) 36 41 (.agg #[(.int .i64 0), (.int .i64 0)]) 16 rfl Try.underlying36 spec_l03Match_from.info2 rfl (by decide) (by omega) v32 [] N _ _ _ (fun _ => True) (fun _ => False) rfl rfl ?aO ?aR (fun _ _ h => h) (fun _ h => h.elim) ?aF ?aB ?aS ?aL ?_; (case aR => exact Kd.C_below HN.out HB3.out); (case aB => exact HB3.out); (case aF => exact (fun _ _ => trivial)); (case aO => exact HO3.out); (case aS => exact HB3.out.size); (case aL => have := H3.out; simp; omega); intro v34 w5 ho hb hg hat; rw [List.nil_append] at ho; have HI5 := Aside0.mk (HI.out.next hb); have HO5 := Aside0.mk (Kd.R_lower ho HI.out.b.size); have KP5 := Aside0.mk (KeepBut.of_below hb gw none); clear ho hb hg hat; obtain ⟨A5, c5, e5⟩ := Kd.R_slice HO5.out; subst e5; have hw2 : w5.cell? ⟨gw, 101, none⟩ = some vB := HI5.out.cb; have hw3 : w5.cell? ⟨gw, 102, none⟩ = some (.int .i64 m) := HI5.out.cm; have hw4 : w5.cell? ⟨gw, 103, none⟩ = some (.bool false) := HI5.out.cf; have hz2 := blk_frozen HI5.out.h 101; have hz3 := blk_frozen HI5.out.h 102; have hz4 := blk_frozen HI5.out.h 103))
     refine bodyPost_ret (results_none rfl _ _ _) rfl ⟨rfl, ?_, _, HI5.out.store HO5.out sum⟩
     exact ((KP5.out.set_ 101 _).set_ 102 _).set_ 103 _
    | true =>
     have hmm : ¬ m ≤ sum := fun z => h1 ⟨rfl, z⟩
     have d3 : decide (m ≤ sum) = false := decide_eq_false hmm
     clear h1 hmm
     go_enter Try.func42, Try.ntmps42
     go_wp2_with (first | ((with_reducible refine gate_dst (N := 32) rfl ?_); refine Kd.R_lit k41 _ 41 ?hg (N := 32) ?hd (xs := ([] : List S41)) (inner := []) (ok := fun _ => True) (okp := fun _ => True) ?hr ?hp (fun _ hk => hk) trivial (Below.refl _ _) (Nat.le_refl _) (by simp) ?_; (case hd => rfl); (case hg => rfl); (case hr => first | (go_simp; done) | (go_simp; rfl)); (case hp => exact (Reps.none _ _)); intro v32 w3 ho3 hb3 hg_ hnew_; have HO3 := Aside0.mk ho3; have HB3 := Aside0.mk hb3; clear ho3 hb3 hg_ hnew_) | ((with_reducible refine gate_builtin (b := .append) (xs := #[.tmp 32, .tmp 33]) rfl ?_); at_builtin; refine Kd.R_append_rows k41 (w0 := W) W.heap.size rfl (.tmp 32) (.tmp 33) 36 41 (.agg #[(.int .i64 0), (.int .i64 0)]) 16 rfl Try.underlying36 spec_l03Match_from.info2 rfl (by decide) (by omega) v32 [] N _ _ _ (fun _ => True) (fun _ => False) rfl rfl ?aO ?aR (fun _ _ h => h) (fun _ h => h.elim) ?aF ?aB ?aS ?aL ?_; (case aR => exact Kd.C_below HN.out HB3.out); (case aB => exact HB3.out); (case aF => exact (fun _ _ => trivial)); (case aO => exact HO3.out); (case aS => exact HB3.out.size); (case aL => have := H3.out; simp; omega); intro v34 w5 ho hb hg hat; rw [List.nil_append] at ho; have HI5 := Aside0.mk (HI.out.next hb); have HO5 := Aside0.mk (Kd.R_lower ho HI.out.b.size); have KP5 := Aside0.mk (KeepBut.of_below hb gw none); clear ho hb hg hat; obtain ⟨A5, c5, e5⟩ := Kd.R_slice HO5.out; subst e5; have hw2 : w5.cell? ⟨gw, 101, none⟩ = some vB := HI5.out.cb; have hw3 : w5.cell? ⟨gw, 102, none⟩ = some (.int .i64 m) := HI5.out.cm; have hw4 : w5.cell? ⟨gw, 103, none⟩ = some (.bool true) := HI5.out.cf; have hz2 := blk_frozen HI5.out.h 101; have hz3 := blk_frozen HI5.out.h 102; have hz4 := blk_frozen HI5.out.h 103))
     refine bodyPost_ret (results_none rfl _ _ _) rfl ⟨rfl, ?_, _, HI5.out.store HO5.out sum⟩
     exact ((KP5.out.set_ 101 _).set_ 102 _).set_ 103 _
  rw [if_neg h2] at h
  have e1 : (2 * (N.length : Int) == n) = false := beq_eq_false_iff_ne.mpr h2
  obtain ⟨a, ha, h⟩ := Option.bind_eq_some_iff.mp h
  have HL := Aside0.mk h
  have HS := Aside0.mk ha
  clear h h3 h2 ha
  cases fd with
  | false =>
   clear h1
   go_enter Try.func42, Try.ntmps42
   go_wp2
   go_loopg [8] k (fun gq v8 W2 => ∃ (x : Nat), v8 = .int .i64 (x : Int) ∧ W2 = W ∧ Aside0 (spec_l03Match_from.skip gq used x = some a) ∧ Aside0 (gq ≤ k))
   case atStart => exact ⟨0, rfl, rfl, HS, ⟨Nat.le_refl _⟩⟩
   case round =>
   clear HS
   obtain ⟨x, rfl, hww, HS, HK⟩ := hrel
   replace hww := hww.symm
   subst hww
   cases gk with
   | zero => exact absurd HS.out (by simp [spec_l03Match_from.skip])
   | succ g =>
    have H := HS.out
    rw [spec_l03Match_from.skip] at H
    clear HS
    by_cases hx : x < 60
    rotate_left
    · rw [if_neg hx] at H; cases H
    rw [if_pos hx] at H
    obtain ⟨j, hj⟩ : ∃ j_ : Int, (shr .i64 used (x : Int)) = j_ := ⟨_, rfl⟩
    rw [hj] at H
    have hjn : used / 2 ^ x = j := by rw [← hj]; unfold shr; rw [Int.toNat_natCast, Nat.min_eq_left (by show x ≤ 64; omega)]
    have hjm : used / 2 ^ min x 64 = j := by rw [Nat.min_eq_left (by omega)]; exact hjn
    by_cases hb : Go.bits .and .i64 j 1 = 1
    · rw [if_pos hb] at H
      have hb1 : (Go.bits .and .i64 j 1 == 1) = true := beq_iff_eq.mpr hb
      have HS := Aside0.mk H
      clear H
      go_wp2
      go_roundg g
      case measure => omega
      case rel => exact ⟨x + 1, (by first | rfl | (congr 1; unfold wrap64; omega)), rfl, HS, ⟨by have := HK.out; omega⟩⟩
    rw [if_neg hb] at H
    have hb1 : (Go.bits .and .i64 j 1 == 1) = false := beq_eq_false_iff_ne.mpr hb
    obtain rfl := Option.some.inj H
    clear H
    go_wp2
    have KP0 := Aside0.mk (KeepBut.refl W gw none)
    clear hj hjn hjm hb hb1 hqn hqm hqf hw2 e1
    go_loopg [9, 10] k (fun gq v9 _ W2 => ∃ (b : Nat) (B1 : List S41) (m1 : Int) (fd1 : Bool) (vB1 : Value), v9 = .int .i64 (b : Int) ∧ Aside0 (spec_l03Match_from.l0 R n gq N used sum x b B1 m1 fd1 = some (r1, r2, r3)) ∧ Aside0 (gq ≤ k) ∧ Aside0 (spec_l03Match_from.Inv w W2 gw R n B1 m1 fd1 vB1) ∧ Aside0 (KeepBut W W2 gw none) ∧ Aside0 (Kd.C k41 W2 An N.length N))
    case atStart => exact ⟨x + 1, B, m, _, vB, (by first | rfl | (congr 1; unfold wrap64; omega)), HL, ⟨Nat.le_refl _⟩, HI, KP0, HN⟩
    case round =>
    clear HL HI KP0 HN HK
    obtain ⟨b, B1, m1, fd1, vB1, rfl, HL, HK, HI2, KP2, HN2⟩ := hrel
    cases gk with
    | zero => exact absurd HL.out (by simp [spec_l03Match_from.l0])
    | succ g2 =>
     have H := HL.out
     rw [spec_l03Match_from.l0] at H
     clear HL
     have hqn := HI2.out.cn
     by_cases hbn : (b : Int) < n
     rotate_left
     · rw [if_neg hbn] at H
       have hbn1 : decide ((b : Int) < n) = false := decide_eq_false hbn
       have e := Option.some.inj H
       simp only [Prod.mk.injEq] at e
       obtain ⟨rfl, rfl, rfl⟩ := e
       clear H
       go_wp2
       refine bodyPost_end (results_none rfl _ _ _) rfl ⟨rfl, KP2.out, vB1, HI2.out⟩
     rw [if_pos hbn] at H
     have hbn1 : decide ((b : Int) < n) = true := decide_eq_true hbn
     by_cases hg : x < 10 ∧ b < 10 ∧ N.length ≤ 1048576
     rotate_left
     · rw [if_neg hg] at H; cases H
     rw [if_pos hg] at H
     obtain ⟨g3, g4, g5⟩ := hg
     obtain ⟨j, hj⟩ : ∃ j_ : Int, (shr .i64 used (b : Int)) = j_ := ⟨_, rfl⟩
     rw [hj] at H
     have hjn : used / 2 ^ b = j := by rw [← hj]; unfold shr; rw [Int.toNat_natCast, Nat.min_eq_left (by show b ≤ 64; omega)]
     have hjm : used / 2 ^ min b 64 = j := by rw [Nat.min_eq_left (by omega)]; exact hjn
     by_cases hb : Go.bits .and .i64 j 1 = 0
     rotate_left
     · rw [if_neg hb] at H
       have HL := Aside0.mk H
       have hb1 : (Go.bits .and .i64 j 1 == 0) = false := beq_eq_false_iff_ne.mpr hb
       clear H hb hj
       go_wp2
       go_roundg g2
       case measure => omega
       case rel => exact ⟨b + 1, B1, m1, fd1, vB1, (by first | rfl | (congr 1; unfold wrap64; omega)), HL, ⟨by have := HK.out; omega⟩, HI2, KP2, HN2⟩
     rw [if_pos hb] at H
     obtain ⟨⟨B2, m2, fd2⟩, hput, H⟩ := Option.bind_eq_some_iff.mp H
     simp only at H
     obtain ⟨rr, hrr⟩ : ∃ r_, R.getD (x * 10 + b) 0 = r_ := ⟨_, rfl⟩
     obtain ⟨N7, hN7⟩ : ∃ N_, N ++ [(⟨(x : Int), (b : Int)⟩ : S41)] = N_ := ⟨_, rfl⟩
     rw [hrr, hN7] at hput
     have HRR := Aside0.mk hrr
     have HN7 := Aside0.mk hN7
     have HP := Aside0.mk hput
     have HL := Aside0.mk H
     have hb1 : (Go.bits .and .i64 j 1 == 0) = true := beq_iff_eq.mpr hb
     have hsa : wrap64 (2 ^ x) = shl .i64 1 (x : Int) := by unfold shl; rw [Int.toNat_natCast, Nat.min_eq_left (by show x ≤ 64; omega), Int.one_mul, spec_l03Match_from.wr64]
     have hsb : wrap64 (2 ^ b) = shl .i64 1 (b : Int) := by unfold shl; rw [Int.toNat_natCast, Nat.min_eq_left (by show b ≤ 64; omega), Int.one_mul, spec_l03Match_from.wr64]
     have G5 := Aside0.mk g5
     have qx0 : (0 : Int) ≤ (x : Int) := by omega
     have qb0 : (0 : Int) ≤ (b : Int) := by omega
     have qx1 : (x : Int) < 10 := by omega
     have qb1 : (b : Int) < 10 := by omega
     clear H hput hb hj hrr hN7
     go_wp2_with (first | ((with_reducible refine gate_dst (N := 68) rfl ?_); refine Kd.R_lit k41 _ 41 ?hg (N := 68) ?hd (xs := ([] : List S41)) (inner := []) (ok := fun _ => True) (okp := fun _ => True) ?hr ?hp (fun _ hk => hk) trivial (Below.refl _ _) (Nat.le_refl _) (by simp) ?_; (case hd => rfl); (case hg => rfl); (case hr => first | (go_simp; done) | (go_simp; rfl)); (case hp => exact (Reps.none _ _)); intro v68 w3 ho3 hb3 hg_ hnew_; have HO3 := Aside0.mk ho3; have HB3 := Aside0.mk hb3; clear ho3 hb3 hg_ hnew_) | ((with_reducible refine gate_builtin (b := .append) (xs := #[.tmp 68, .tmp 69]) rfl ?_); at_builtin; refine Kd.R_append_rows k41 (w0 := wr) wr.heap.size rfl (.tmp 68) (.tmp 69) 36 41 (.agg #[(.int .i64 0), (.int .i64 0)]) 16 rfl Try.underlying36 spec_l03Match_from.info2 rfl (by decide) (by omega) v68 [] N _ _ _ (fun _ => True) (fun _ => False) rfl rfl ?aO ?aR (fun _ _ h => h) (fun _ h => h.elim) ?aF ?aB ?aS ?aL ?_; (case aR => exact Kd.C_below HN2.out HB3.out); (case aB => exact HB3.out); (case aF => exact (fun _ _ => trivial)); (case aO => exact HO3.out); (case aS => exact HB3.out.size); (case aL => have := G5.out; simp; omega); intro v70 w5 ho hb hg hat; rw [List.nil_append] at ho; have HO5 := Aside0.mk ho; have HB5 := Aside0.mk hb; clear ho hb hg hat) | ((with_reducible refine gate_builtin (b := .append) (xs := #[.tmp 70, .tmp 74]) rfl ?_); at_builtin; refine Kd.R_append_rows k41 (w0 := wr) wr.heap.size rfl (.tmp 70) (.tmp 74) 36 41 (.agg #[(.int .i64 0), (.int .i64 0)]) 16 rfl Try.underlying36 spec_l03Match_from.info2 rfl (by decide) (by omega) v70 N [⟨(x : Int), (b : Int)⟩] _ _ _ (fun _ => True) (fun _ => False) rfl rfl ?aO ?aR (fun _ _ h => h) (fun _ h => h.elim) ?aF ?aB ?aS ?aL ?_; (case aR => exact spec_l03Match_from.lit _ _ (blk_new _ _)); (case aB => exact below_alloc HB5.out _); (case aF => exact (fun _ _ => trivial)); (case aO => exact Kd.R_alloc HO5.out _); (case aS => exact (below_alloc HB5.out _).size); (case aL => have := G5.out; simp; omega); intro v75 w7 ho hb hg hat; rw [HN7.out] at ho; have HI7 := Aside0.mk (HI2.out.next hb); have KP7 := Aside0.mk (KP2.out.trans (KeepBut.of_below hb gw none) (.inl rfl)); have HO7 := Aside0.mk ho; have HN7_ := Aside0.mk (Kd.C_below HN2.out hb); clear ho hb hg hat; obtain ⟨A7, c7, e7⟩ := Kd.R_slice HO7.out; subst e7; have hcr : w7.cell? ⟨gw, x * 10 + b, none⟩ = some (.int .i64 rr) := (HI7.out.cr (x * 10 + b) (by omega)).trans (by rw [HRR.out])) | (go_at_call 42; refine (IHa.out g2 (by have := HK.out; omega) A7 c7 N7 _ _ B1 m1 fd1 vB1 _ B2 m2 fd2 HI7.out (Kd.R_reads' HO7.out).2.2 (Kd.R_reads' HO7.out).2.1 (fun ad e => by subst e; have q := Kd.R_base HO7.out ad.block rfl; have := blk_lt HI2.out.h; omega) HP.out).mono ?_; rintro e w9 ⟨rfl, hk, vB2, hI9⟩; have HI9 := Aside0.mk hI9; have KP9 := Aside0.mk (KP7.out.trans hk (.inl rfl)); have HN9 := Aside0.mk (spec_l03Match_from.keepC hk HN7_.out HNE.out); clear hk hI9))
     go_wp2
     go_roundg g2
     case measure => omega
     case rel => exact ⟨b + 1, B2, m2, fd2, vB2, (by first | rfl | (congr 1; unfold wrap64; omega)), HL, ⟨by have := HK.out; omega⟩, HI9, KP9, HN9⟩
  | true =>
   have hmm : ¬ m ≤ sum := fun z => h1 ⟨rfl, z⟩
   have d3 : decide (m ≤ sum) = false := decide_eq_false hmm
   clear h1 hmm
   go_enter Try.func42, Try.ntmps42
   go_wp2
   go_loopg [8] k (fun gq v8 W2 => ∃ (x : Nat), v8 = .int .i64 (x : Int) ∧ W2 = W ∧ Aside0 (spec_l03Match_from.skip gq used x = some a) ∧ Aside0 (gq ≤ k))
   case atStart => exact ⟨0, rfl, rfl, HS, ⟨Nat.le_refl _⟩⟩
   case round =>
   clear HS
   obtain ⟨x, rfl, hww, HS, HK⟩ := hrel
   replace hww := hww.symm
   subst hww
   cases gk with
   | zero => exact absurd HS.out (by simp [spec_l03Match_from.skip])
   | succ g =>
    have H := HS.out
    rw [spec_l03Match_from.skip] at H
    clear HS
    by_cases hx : x < 60
    rotate_left
    · rw [if_neg hx] at H; cases H
    rw [if_pos hx] at H
    obtain ⟨j, hj⟩ : ∃ j_ : Int, (shr .i64 used (x : Int)) = j_ := ⟨_, rfl⟩
    rw [hj] at H
    have hjn : used / 2 ^ x = j := by rw [← hj]; unfold shr; rw [Int.toNat_natCast, Nat.min_eq_left (by show x ≤ 64; omega)]
    have hjm : used / 2 ^ min x 64 = j := by rw [Nat.min_eq_left (by omega)]; exact hjn
    by_cases hb : Go.bits .and .i64 j 1 = 1
    · rw [if_pos hb] at H
      have hb1 : (Go.bits .and .i64 j 1 == 1) = true := beq_iff_eq.mpr hb
      have HS := Aside0.mk H
      clear H
      go_wp2
      go_roundg g
      case measure => omega
      case rel => exact ⟨x + 1, (by first | rfl | (congr 1; unfold wrap64; omega)), rfl, HS, ⟨by have := HK.out; omega⟩⟩
    rw [if_neg hb] at H
    have hb1 : (Go.bits .and .i64 j 1 == 1) = false := beq_eq_false_iff_ne.mpr hb
    obtain rfl := Option.some.inj H
    clear H
    go_wp2
    have KP0 := Aside0.mk (KeepBut.refl W gw none)
    clear hj hjn hjm hb hb1 hqn hqm hqf hw2 e1
    go_loopg [9, 10] k (fun gq v9 _ W2 => ∃ (b : Nat) (B1 : List S41) (m1 : Int) (fd1 : Bool) (vB1 : Value), v9 = .int .i64 (b : Int) ∧ Aside0 (spec_l03Match_from.l0 R n gq N used sum x b B1 m1 fd1 = some (r1, r2, r3)) ∧ Aside0 (gq ≤ k) ∧ Aside0 (spec_l03Match_from.Inv w W2 gw R n B1 m1 fd1 vB1) ∧ Aside0 (KeepBut W W2 gw none) ∧ Aside0 (Kd.C k41 W2 An N.length N))
    case atStart => exact ⟨x + 1, B, m, _, vB, (by first | rfl | (congr 1; unfold wrap64; omega)), HL, ⟨Nat.le_refl _⟩, HI, KP0, HN⟩
    case round =>
    clear HL HI KP0 HN HK
    obtain ⟨b, B1, m1, fd1, vB1, rfl, HL, HK, HI2, KP2, HN2⟩ := hrel
    cases gk with
    | zero => exact absurd HL.out (by simp [spec_l03Match_from.l0])
    | succ g2 =>
     have H := HL.out
     rw [spec_l03Match_from.l0] at H
     clear HL
     have hqn := HI2.out.cn
     by_cases hbn : (b : Int) < n
     rotate_left
     · rw [if_neg hbn] at H
       have hbn1 : decide ((b : Int) < n) = false := decide_eq_false hbn
       have e := Option.some.inj H
       simp only [Prod.mk.injEq] at e
       obtain ⟨rfl, rfl, rfl⟩ := e
       clear H
       go_wp2
       refine bodyPost_end (results_none rfl _ _ _) rfl ⟨rfl, KP2.out, vB1, HI2.out⟩
     rw [if_pos hbn] at H
     have hbn1 : decide ((b : Int) < n) = true := decide_eq_true hbn
     by_cases hg : x < 10 ∧ b < 10 ∧ N.length ≤ 1048576
     rotate_left
     · rw [if_neg hg] at H; cases H
     rw [if_pos hg] at H
     obtain ⟨g3, g4, g5⟩ := hg
     obtain ⟨j, hj⟩ : ∃ j_ : Int, (shr .i64 used (b : Int)) = j_ := ⟨_, rfl⟩
     rw [hj] at H
     have hjn : used / 2 ^ b = j := by rw [← hj]; unfold shr; rw [Int.toNat_natCast, Nat.min_eq_left (by show b ≤ 64; omega)]
     have hjm : used / 2 ^ min b 64 = j := by rw [Nat.min_eq_left (by omega)]; exact hjn
     by_cases hb : Go.bits .and .i64 j 1 = 0
     rotate_left
     · rw [if_neg hb] at H
       have HL := Aside0.mk H
       have hb1 : (Go.bits .and .i64 j 1 == 0) = false := beq_eq_false_iff_ne.mpr hb
       clear H hb hj
       go_wp2
       go_roundg g2
       case measure => omega
       case rel => exact ⟨b + 1, B1, m1, fd1, vB1, (by first | rfl | (congr 1; unfold wrap64; omega)), HL, ⟨by have := HK.out; omega⟩, HI2, KP2, HN2⟩
     rw [if_pos hb] at H
     obtain ⟨⟨B2, m2, fd2⟩, hput, H⟩ := Option.bind_eq_some_iff.mp H
     simp only at H
     obtain ⟨rr, hrr⟩ : ∃ r_, R.getD (x * 10 + b) 0 = r_ := ⟨_, rfl⟩
     obtain ⟨N7, hN7⟩ : ∃ N_, N ++ [(⟨(x : Int), (b : Int)⟩ : S41)] = N_ := ⟨_, rfl⟩
     rw [hrr, hN7] at hput
     have HRR := Aside0.mk hrr
     have HN7 := Aside0.mk hN7
     have HP := Aside0.mk hput
     have HL := Aside0.mk H
     have hb1 : (Go.bits .and .i64 j 1 == 0) = true := beq_iff_eq.mpr hb
     have hsa : wrap64 (2 ^ x) = shl .i64 1 (x : Int) := by unfold shl; rw [Int.toNat_natCast, Nat.min_eq_left (by show x ≤ 64; omega), Int.one_mul, spec_l03Match_from.wr64]
     have hsb : wrap64 (2 ^ b) = shl .i64 1 (b : Int) := by unfold shl; rw [Int.toNat_natCast, Nat.min_eq_left (by show b ≤ 64; omega), Int.one_mul, spec_l03Match_from.wr64]
     have G5 := Aside0.mk g5
     have qx0 : (0 : Int) ≤ (x : Int) := by omega
     have qb0 : (0 : Int) ≤ (b : Int) := by omega
     have qx1 : (x : Int) < 10 := by omega
     have qb1 : (b : Int) < 10 := by omega
     clear H hput hb hj hrr hN7
     go_wp2_with (first | ((with_reducible refine gate_dst (N := 68) rfl ?_); refine Kd.R_lit k41 _ 41 ?hg (N := 68) ?hd (xs := ([] : List S41)) (inner := []) (ok := fun _ => True) (okp := fun _ => True) ?hr ?hp (fun _ hk => hk) trivial (Below.refl _ _) (Nat.le_refl _) (by simp) ?_; (case hd => rfl); (case hg => rfl); (case hr => first | (go_simp; done) | (go_simp; rfl)); (case hp => exact (Reps.none _ _)); intro v68 w3 ho3 hb3 hg_ hnew_; have HO3 := Aside0.mk ho3; have HB3 := Aside0.mk hb3; clear ho3 hb3 hg_ hnew_) | ((with_reducible refine gate_builtin (b := .append) (xs := #[.tmp 68, .tmp 69]) rfl ?_); at_builtin; refine Kd.R_append_rows k41 (w0 := wr) wr.heap.size rfl (.tmp 68) (.tmp 69) 36 41 (.agg #[(.int .i64 0), (.int .i64 0)]) 16 rfl Try.underlying36 spec_l03Match_from.info2 rfl (by decide) (by omega) v68 [] N _ _ _ (fun _ => True) (fun _ => False) rfl rfl ?aO ?aR (fun _ _ h => h) (fun _ h => h.elim) ?aF ?aB ?aS ?aL ?_; (case aR => exact Kd.C_below HN2.out HB3.out); (case aB => exact HB3.out); (case aF => exact (fun _ _ => trivial)); (case aO => exact HO3.out); (case aS => exact HB3.out.size); (case aL => have := G5.out; simp; omega); intro v70 w5 ho hb hg hat; rw [List.nil_append] at ho; have HO5 := Aside0.mk ho; have HB5 := Aside0.mk hb; clear ho hb hg hat) | ((with_reducible refine gate_builtin (b := .append) (xs := #[.tmp 70, .tmp 74]) rfl ?_); at_builtin; refine Kd.R_append_rows k41 (w0 := wr) wr.heap.size rfl (.tmp 70) (.tmp 74) 36 41 (.agg #[(.int .i64 0), (.int .i64 0)]) 16 rfl Try.underlying36 spec_l03Match_from.info2 rfl (by decide) (by omega) v70 N [⟨(x : Int), (b : Int)⟩] _ _ _ (fun _ => True) (fun _ => False) rfl rfl ?aO ?aR (fun _ _ h => h) (fun _ h => h.elim) ?aF ?aB ?aS ?aL ?_; (case aR => exact spec_l03Match_from.lit _ _ (blk_new _ _)); (case aB => exact below_alloc HB5.out _); (case aF => exact (fun _ _ => trivial)); (case aO => exact Kd.R_alloc HO5.out _); (case aS => exact (below_alloc HB5.out _).size); (case aL => have := G5.out; simp; omega); intro v75 w7 ho hb hg hat; rw [HN7.out] at ho; have HI7 := Aside0.mk (HI2.out.next hb); have KP7 := Aside0.mk (KP2.out.trans (KeepBut.of_below hb gw none) (.inl rfl)); have HO7 := Aside0.mk ho; have HN7_ := Aside0.mk (Kd.C_below HN2.out hb); clear ho hb hg hat; obtain ⟨A7, c7, e7⟩ := Kd.R_slice HO7.out; subst e7; have hcr : w7.cell? ⟨gw, x * 10 + b, none⟩ = some (.int .i64 rr) := (HI7.out.cr (x * 10 + b) (by omega)).trans (by rw [HRR.out])) | (go_at_call 42; refine (IHa.out g2 (by have := HK.out; omega) A7 c7 N7 _ _ B1 m1 fd1 vB1 _ B2 m2 fd2 HI7.out (Kd.R_reads' HO7.out).2.2 (Kd.R_reads' HO7.out).2.1 (fun ad e => by subst e; have q := Kd.R_base HO7.out ad.block rfl; have := blk_lt HI2.out.h; omega) HP.out).mono ?_; rintro e w9 ⟨rfl, hk, vB2, hI9⟩; have HI9 := Aside0.mk hI9; have KP9 := Aside0.mk (KP7.out.trans hk (.inl rfl)); have HN9 := Aside0.mk (spec_l03Match_from.keepC hk HN7_.out HNE.out); clear hk hI9))
     go_wp2
     go_roundg g2
     case measure => omega
     case rel => exact ⟨b + 1, B2, m2, fd2, vB2, (by first | rfl | (congr 1; unfold wrap64; omega)), HL, ⟨by have := HK.out; omega⟩, HI9, KP9, HN9⟩

end Go.Proofs.Ythfanjdbemoaaaa.XFnPlies
