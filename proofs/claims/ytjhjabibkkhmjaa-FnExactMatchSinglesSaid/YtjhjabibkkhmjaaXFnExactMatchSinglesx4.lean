/- The functions that the law FnExactMatchSingles reaches: each as a Lean function, and that its call does what that function says; no conditions. -/
import Derived.Test.YtjhjabibkkhmjaaXFnExactMatchSinglesx0
import Derived.Test.YtjhjabibkkhmjaaXFnExactMatchSinglesx3
namespace Go.Proofs.Ytjhjabibkkhmjaa.XFnExactMatchSingles
open Go.RowKit Go.Proofs.YtjhjabibkkhmjaaW.PrintWords Go.Proofs.YtjhjabibkkhmjaaW.PrintLast Go.Proofs.YtjhjabibkkhmjaaW.PrintMore
attribute [local go_sem] max2_int min2_int max_two min_two max_three min_three max_four min_four   -- for this text's walks alone
set_option linter.unusedVariables false
set_option linter.unusedSimpArgs false

/-! ### slices_Concat_int64_int64: function 152 -/
def slices_Grow.lays_ren : Go.Shelf.Ren := ⟨fun | 4 => 188 | n => n, fun | 22 => 25 | 25 => 2 | 3 => 3 | 4 => 4 | 9 => 9 | 20 => 20 | 0 => 0 | n => n, fun n => n⟩
theorem slices_Grow.lays : Lays8.n4 Try.prog slices_Grow.lays_ren where
  mixed := by kernel_rfl
  f4 := Exists.intro "slices.Grow[[]int64,int64]" ⟨of_decide_eq_true (by kernel_rfl), Try.func188.trans (congrArg some (by kernel_rfl))⟩
  t0 := Try.underlying0
  a0 := Try.isAgg0
  z0 := Try.sizeOf0
  v0 := Try.zeroValue0
  t3 := Try.underlying3
  a3 := Try.isAgg3
  z3 := Try.sizeOf3
  v3 := Try.zeroValue3
  t4 := Try.underlying4
  a4 := Try.isAgg4
  z4 := Try.sizeOf4
  v4 := Try.zeroValue4
  t9 := Try.underlying9
  a9 := Try.isAgg9
  z9 := Try.sizeOf9
  v9 := Try.zeroValue9
  t20 := Try.underlying20
  a20 := Try.isAgg20
  z20 := Try.sizeOf20
  v20 := Try.zeroValue20
  t22 := Try.underlying25
  a22 := Try.isAgg25
  z22 := Try.sizeOf25
  v22 := Try.zeroValue25
/-- slices.Grow of no list: a row of the call's own, of no length. -/
theorem slices_Grow.nil (n : Nat) (w : World) (hn : n ≤ 1000) :
    Calls Try.prog 188 #[.slice none 0 0, .int .i64 n] w fun e w' => ∃ v, e = .returned v ∧ Kd.R (Kd.int .i64) 2 w' w.heap.size (fun k => w.heap.size ≤ k) v ([] : List Int) ∧ Below w.heap.size w w' := by
  rcases Nat.eq_zero_or_pos n with rfl | hp
  · refine (Any8.slices_Grow_room slices_Grow.lays none 0 0 0 w (by omega) (by omega) (by omega) (by omega)).mono ?_
    rintro e w' ⟨rfl, rfl⟩
    exact ⟨_, rfl, Kd.R_nil _ _ _ _ _, Below.refl _ _⟩
  · obtain ⟨i0, hi, hzz⟩ := Option.map_eq_some_iff.1 info2
    simp only [Prod.mk.injEq] at hzz
    obtain ⟨hz0, hz1, hz2⟩ := hzz
    refine (Any8.slices_Grow_grow slices_Grow.lays i0 (.int .i64 0) hi hz0 (by omega) none 0 0 n [] w (by omega) (by omega) (by rw [hz2]; omega) (by omega) (by simp) (fun _ => rfl) (fun a h => by cases h)).mono ?_
    rintro e w' ⟨rfl, rfl⟩
    have ht : slices_Grow.lays_ren.t 25 = 2 := rfl
    rw [ht]
    have h1 := grownCap_ge w (0 + n) 0 2
    have h2 := grownCap_le_maxLen w (0 + n) 0 2 (by simp only [maxLen]; omega)
    refine ⟨_, rfl, ⟨fun k hk => ?_, [], ⟨rfl, Or.inr ⟨w.heap.size, _, _, rfl, Nat.le_refl _, blk_new w.drew _, Nat.zero_le _, h2, ?_, rfl⟩⟩, Reps.none _ _⟩, below_alloc (below_drew (Below.refl _ _)) _⟩
    · have e : w.heap.size = k := by simpa [Value.ownBlock] using hk
      omega
    · have e1 : (Kd.int .i64).sz = 1 := rfl
      rw [Nat.zero_add] at h1
      simp only [Array.size_append, size_zeroCells, Value.cells, e1, Nat.zero_add, Nat.sub_zero, List.size_toArray, List.length_nil, Array.size_singleton, List.length_cons, Nat.mul_one]
      omega
set_option maxHeartbeats 4000000 in
set_option maxRecDepth 100000 in
/-- slices.Concat of two lists of numbers. -/
theorem slices_Concat.two (xs ys : List Int) (A : Addr) (A1 A2 : Option Addr) (c1 c2 : Nat) (w : World) (hx : w.cell? A = some (.slice A1 xs.length c1)) (hy : w.cell? ⟨A.block, A.off + 1, none⟩ = some (.slice A2 ys.length c2)) (h1 : Kd.C (Kd.int .i64) w A1 xs.length xs) (h2 : Kd.C (Kd.int .i64) w A2 ys.length ys) (hl : xs.length + ys.length ≤ 1000) :
    Calls Try.prog 152 #[.slice (some A) 2 2] w fun e w' => ∃ v, e = .returned v ∧ Kd.R (Kd.int .i64) 2 w' w.heap.size (fun k => w.heap.size ≤ k) v (xs ++ ys) ∧ Below w.heap.size w w' := by
  have H1 := Aside0.mk h1
  have H2 := Aside0.mk h2
  have HXY := Aside0.mk (And.intro hx hy)
  have HL := Aside0.mk hl
  clear h1 h2 hx hy hl
  go_enter Try.func152, Try.ntmps152
  go_wp2
  go_loopg [3, 11] 2 (fun gg v3 v11 wr => ∃ (kk : Nat) (s : Int), kk + gg = 2 ∧ v11 = .int .i64 (kk : Int) ∧ v3 = .int .i64 s ∧ wr = w ∧ Aside0 ((kk = 0 → s = 0) ∧ (kk = 1 → s = (xs.length : Int)) ∧ (kk = 2 → s = (xs.length : Int) + (ys.length : Int))))
  case atStart => exact ⟨0, 0, by omega, rfl, rfl, rfl, ⟨fun _ => rfl, fun z => absurd z (by omega), fun z => absurd z (by omega)⟩⟩
  case round =>
    obtain ⟨kk, s, hkk, rfl, rfl, hww, HE⟩ := hrel
    replace hww := hww.symm
    subst hww
    rcases (by omega : kk = 0 ∨ kk = 1 ∨ kk = 2) with rfl | rfl | rfl
    · obtain rfl : gk = 1 + 1 := by omega
      have es := HE.out.1 rfl
      subst es
      have hw0 : wrap64 (xs.length : Int) = (xs.length : Int) := by have := HL.out; unfold wrap64; omega
      have hz0 : decide ((xs.length : Int) < 0) = false := decide_eq_false (by omega)
      have hx := HXY.out.1
      go_wp2
      go_roundg 1
      case measure => omega
      case rel => exact ⟨1, (xs.length : Int), by omega, rfl, (by first | rfl | rw [hw0]), rfl, ⟨fun z => absurd z (by omega), fun _ => rfl, fun z => absurd z (by omega)⟩⟩
    · obtain rfl : gk = 0 + 1 := by omega
      have es := HE.out.2.1 rfl
      subst es
      have hw0 : wrap64 ((xs.length : Int) + (ys.length : Int)) = (xs.length : Int) + (ys.length : Int) := by have := HL.out; unfold wrap64; omega
      have hz0 : decide ((xs.length : Int) + (ys.length : Int) < 0) = false := decide_eq_false (by omega)
      have hy := HXY.out.2
      go_wp2
      go_roundg 0
      case measure => omega
      case rel => exact ⟨2, (xs.length : Int) + (ys.length : Int), by omega, rfl, (by first | rfl | rw [hw0]), rfl, ⟨fun z => absurd z (by omega), fun z => absurd z (by omega), fun _ => rfl⟩⟩
    · have es := HE.out.2.2 rfl
      have es2 : s = ((xs.length + ys.length : Nat) : Int) := by omega
      clear es HE
      subst es2
      go_wp2_with (go_at_call 188; refine (slices_Grow.nil (xs.length + ys.length) w HL.out).mono ?_; rintro e w1 ⟨v, rfl, hr, hb⟩)
      have HR := Aside0.mk hr
      have HB := Aside0.mk hb
      clear hr hb
      go_loopg [6, 27] 2 (fun gg v6 v27 w' => ∃ (kk : Nat) (v : Value) (zs : List Int), kk + gg = 2 ∧ v27 = .int .i64 (kk : Int) ∧ v6 = v ∧ Aside0 (Kd.R (Kd.int .i64) 2 w' w.heap.size (fun k => w.heap.size ≤ k) v zs) ∧ Aside0 (Below w.heap.size w w') ∧ Aside0 ((kk = 0 → zs = []) ∧ (kk = 1 → zs = xs) ∧ (kk = 2 → zs = xs ++ ys)))
      case atStart => exact ⟨0, v, [], by omega, rfl, rfl, HR, HB, ⟨fun _ => rfl, fun z => absurd z (by omega), fun z => absurd z (by omega)⟩⟩
      case round =>
        clear HR HB
        obtain ⟨kk, v, zs, hkk, rfl, rfl, HR, HB, HE⟩ := hrel
        rcases (by omega : kk = 0 ∨ kk = 1 ∨ kk = 2) with rfl | rfl | rfl
        · obtain rfl : gk = 1 + 1 := by omega
          have ez := HE.out.1 rfl
          subst ez
          have hx : wr.cell? A = some (.slice A1 xs.length c1) := (HB.out.cell (World.block_lt_of_cell? w _ HXY.out.1)).trans HXY.out.1
          go_wp2_with (at_builtin; refine Kd.R_append_rows (Kd.int .i64) (w0 := w) w.heap.size rfl (.tmp 31) (.tmp 32) 25 2 (.int .i64 0) 8 rfl Try.underlying25 info2 rfl (by decide) (by omega) _ [] xs A1 _ _ (fun k => w.heap.size ≤ k) (fun _ => False) rfl rfl ?aO ?aR (fun _ _ h => h) (fun _ h => h.elim) ?aF ?aB ?aS ?aL ?_)
          case aO => exact HR.out
          case aR => exact Kd.C_below H1.out HB.out
          case aF => exact fun k hk => Nat.le_trans (below_size HB.out) hk
          case aB => exact HB.out
          case aS => exact below_size HB.out
          case aL => have := HL.out; simp; omega
          intro v1 w3 ho hb hg hat
          have HR2 := Aside0.mk ho
          have HB2 := Aside0.mk hb
          clear ho hb hg hat
          go_wp2
          go_roundg 1
          case measure => omega
          case rel => exact ⟨1, v1, _, by omega, rfl, rfl, HR2, HB2, ⟨fun z => absurd z (by omega), fun _ => rfl, fun z => absurd z (by omega)⟩⟩
        · obtain rfl : gk = 0 + 1 := by omega
          have ez := (HE.out.2.1 rfl).symm
          subst ez
          have hx : wr.cell? ⟨A.block, A.off + 1, none⟩ = some (.slice A2 ys.length c2) := (HB.out.cell (World.block_lt_of_cell? w _ HXY.out.2)).trans HXY.out.2
          go_wp2_with (at_builtin; refine Kd.R_append_rows (Kd.int .i64) (w0 := w) w.heap.size rfl (.tmp 31) (.tmp 32) 25 2 (.int .i64 0) 8 rfl Try.underlying25 info2 rfl (by decide) (by omega) _ xs ys A2 _ _ (fun k => w.heap.size ≤ k) (fun _ => False) rfl rfl ?aO ?aR (fun _ _ h => h) (fun _ h => h.elim) ?aF ?aB ?aS ?aL ?_)
          case aO => exact HR.out
          case aR => exact Kd.C_below H2.out HB.out
          case aF => exact fun k hk => Nat.le_trans (below_size HB.out) hk
          case aB => exact HB.out
          case aS => exact below_size HB.out
          case aL => have := HL.out; simp; omega
          intro v1 w3 ho hb hg hat
          have HR2 := Aside0.mk ho
          have HB2 := Aside0.mk hb
          clear ho hb hg hat
          go_wp2
          go_roundg 0
          case measure => omega
          case rel => exact ⟨2, v1, _, by omega, rfl, rfl, HR2, HB2, ⟨fun z => absurd z (by omega), fun z => absurd z (by omega), fun _ => rfl⟩⟩
        · have ez := HE.out.2.2 rfl
          subst ez
          obtain ⟨Ao, co, eo⟩ := Kd.R_slice HR.out
          subst eo
          go_wp2
          go_ret
          exact ⟨_, rfl, by simpa using HR.out, HB.out⟩
/-- Two lists, one behind the other. -/
def slices_Concat.f (a : List Int) : Option (List Int) := some a


/-! ### slices_Clone_2_int64_2_int64: function 153 -/
@[reducible] def slices_Clone_2_int64_2_int64.f (l0 : List S92) : Option (List S92) := if l0.length * 16 ≤ 140737488355328 then some l0 else none
set_option maxHeartbeats 2000000 in
set_option maxRecDepth 100000 in
theorem slices_Clone_2_int64_2_int64.calls (A0 : Option Addr) (c0 : Nat) (l0 : List S92) (r : List S92) (w : World) (hr0 : Kd.C k92 w A0 l0.length l0) (hc0 : l0.length ≤ c0) (h : slices_Clone_2_int64_2_int64.f l0 = some r) :
    Calls Try.prog 153 #[.slice A0 l0.length c0] w fun e w' => ∃ v0_ : Value, e = .returned (v0_) ∧ Kd.R k92 92 w' w.heap.size (fun _ => True) v0_ r ∧ Below w.heap.size w w' := by
  have h : (if l0.length * 16 ≤ 140737488355328 then some l0 else none) = some r := h
  by_cases hlen : l0.length * 16 ≤ 140737488355328
  · rw [if_pos hlen] at h
    obtain rfl := Option.some.inj h
    have HR := Aside0.mk hr0
    have HC := Aside0.mk hc0
    have HL := Aside0.mk hlen
    clear h hr0 hc0 hlen
    have qn : ∀ (w : World) (a : Option Addr) (n c n' c' : Nat), (binOp .eql 46 (.slice a n c) (.slice none n' c')).run Try.prog w = .ok (.bool a.isNone) w := fun w a n c n' c' => Lib.run_eql_slice_nil w _ _ a n c n' c' Try.underlying46
    rcases A0 with _ | ad
    · have hn : l0 = [] := by
        have h1 := HR.out
        rcases l0 with _ | ⟨x, l⟩
        · rfl
        · obtain ⟨ad, h, _⟩ := h1.2.2 (by simp)
          cases h
      subst hn
      go_enter Try.func153, Try.ntmps153
      go_wp2
      go_ret
      exact ⟨_, rfl, Kd.R_nil _ _ _ _ _, Below.refl _ w⟩
    · go_enter Try.func153, Try.ntmps153
      go_wp2_with (at_builtin; refine Kd.R_append_rows k92 (w0 := w) w.heap.size rfl _ _ 46 92 (.agg #[(.int .i64 0), (.int .i64 0)]) 16 rfl Try.underlying46 (by kernel_rfl) rfl (by decide) (by omega) _ [] l0 _ _ _ (fun _ => True) (fun _ => False) rfl rfl ?aO ?aR (fun _ _ h => h) (fun _ h => h.elim) ?aF ?aB ?aS ?aL ?_)
      case aO => exact ⟨fun _ _ => trivial, [], World.ownsRow_made w #[] 0 (Nat.le_refl _) (Nat.zero_le _) rfl, Reps.none _ _⟩
      case aR => exact Kd.C_alloc HR.out _
      case aF => exact fun _ _ => trivial
      case aB => exact (Below.refl _ w).alloc (Nat.le_refl _) _
      case aS => simp
      case aL => have := HL.out; simpa using this
      intro v1 w1 ho hb hg hat
      have HO := Aside0.mk ho
      have HB := Aside0.mk hb
      clear ho hb hg hat
      go_wp2
      go_ret
      exact ⟨v1, rfl, by simpa using HO.out, HB.out⟩
  · rw [if_neg hlen] at h; cases h

/-! ### impl_matches: function 102 -/
mutual
/-- The best pairs and their sum, behind all pairings of those that are left. -/
def impl_matches.f (l : List S88) : Nat → List Int → List S92 → List S92 → Int → Option (List S92 × Int)
  | 0, _, _, _, _ => none
  | k + 1, left, ps, B, m => if left.length = 0 then impl_MatchSingles_1.f l ps B m else impl_matches.l0 l k left ps 1 B m
def impl_matches.l0 (l : List S88) : Nat → List Int → List S92 → Nat → List S92 → Int → Option (List S92 × Int)
  | 0, _, _, _, _, _ => none
  | k + 1, left, ps, x, B, m =>
    if x < left.length then
      (if 1 ≤ x ∧ left.length ≤ 500 ∧ ps.length ≤ 1048576 then
        (impl_matches.f l k ((left.take x).drop 1 ++ left.drop (x + 1)) (ps ++ [⟨rd left 0, rd left (x : Int)⟩]) B m).bind fun r => impl_matches.l0 l k left ps (x + 1) r.1 r.2
      else none)
    else some (B, m)
end
theorem impl_matches.mono_l (l : List S88) : ∀ k, (∀ a b c d, LeO (impl_matches.f l k a b c d) (impl_matches.f l (k + 1) a b c d)) ∧ (∀ a b x c d, LeO (impl_matches.l0 l k a b x c d) (impl_matches.l0 l (k + 1) a b x c d))
  | 0 => ⟨fun _ _ _ _ r h => by simp [impl_matches.f] at h, fun _ _ _ _ _ r h => by simp [impl_matches.l0] at h⟩
  | k + 1 => by
    obtain ⟨ih1, ih2⟩ := impl_matches.mono_l l k
    constructor
    · intro a b c d
      rw [impl_matches.f, impl_matches.f]
      repeat' first
        | exact ih2 _ _ _ _ _
        | (with_reducible exact LeO.refl _)
        | (with_reducible refine LeO.ite ?_ ?_)
        | (with_reducible refine LeO.bind ?_ (fun _ => ?_))
    · intro a b x c d
      rw [impl_matches.l0, impl_matches.l0]
      repeat' first
        | exact ih1 _ _ _ _
        | exact ih2 _ _ _ _ _
        | (with_reducible exact LeO.refl _)
        | (with_reducible refine LeO.ite ?_ ?_)
        | (with_reducible refine LeO.bind ?_ (fun _ => ?_))
theorem impl_matches.info : (Try.prog.info? 2).map (fun i => (i.zero, i.size, i.bytes)) = some (some (.int .i64 0), 1, 8) := by kernel_rfl
theorem impl_matches.info2 : (Try.prog.info? 92).map (fun i => (i.zero, i.size, i.bytes)) = some (some (.agg #[(.int .i64 0), (.int .i64 0)]), 2, 16) := by kernel_rfl
/-- What lies before an index, but for the first one. -/
theorem impl_matches.mid (left : List Int) (A : Option Addr) (c x : Nat) (h1 : 1 ≤ x) (hx : x ≤ left.length) (hc : left.length ≤ c) :
    ∃ A' c', (∀ W : World, (Instr.slice 25 (.slice A left.length c) (some (.int .i64 1)) (some (.int .i64 (x : Int))) none).run Try.prog W = .ok (.slice A' ((left.take x).drop 1).length c') W) ∧ (∀ w : World, Kd.C (Kd.int .i64) w A left.length left → Kd.C (Kd.int .i64) w A' ((left.take x).drop 1).length ((left.take x).drop 1)) := by
  obtain ⟨i0, hi, _, hs, _⟩ := info_parts impl_matches.info
  obtain ⟨A', a, b, _⟩ := print_mid_of (P := Try.prog) (Value.int .i64) (0 : Int) 25 2 .i64 .i64 Try.underlying25 hi hs A c left 1 (x : Int) (by omega) (by omega) (by omega) hc
  rw [Int.toNat_natCast] at a b
  exact ⟨A', _, a, fun w h => Kd.C_of_reads (h1 := fun _ => rfl) (b w (Kd.reads_of_C (h1 := fun _ => rfl) h))⟩
/-- What lies behind an index. -/
theorem impl_matches.fro (left : List Int) (A : Option Addr) (c x : Nat) (hx : x + 1 ≤ left.length) (hc : left.length ≤ c) :
    ∃ A' c', (∀ W : World, (Instr.slice 25 (.slice A left.length c) (some (.int .i64 ((x + 1 : Nat) : Int))) none none).run Try.prog W = .ok (.slice A' (left.drop (x + 1)).length c') W) ∧ (∀ w : World, Kd.C (Kd.int .i64) w A left.length left → Kd.C (Kd.int .i64) w A' (left.drop (x + 1)).length (left.drop (x + 1))) := by
  obtain ⟨i0, hi, _, hs, _⟩ := info_parts impl_matches.info
  obtain ⟨A', a, b, _⟩ := print_drop_of (P := Try.prog) (Value.int .i64) (0 : Int) 25 2 .i64 Try.underlying25 hi hs A c left ((x + 1 : Nat) : Int) (by omega) (by omega) hc
  rw [Int.toNat_natCast] at a b
  exact ⟨A', _, a, fun w h => Kd.C_of_reads (h1 := fun _ => rfl) (b w (Kd.reads_of_C (h1 := fun _ => rfl) h))⟩
/-- A literal row of one pair. -/
theorem impl_matches.lit {W : World} {h : Nat} (a b : Int) (hh : W.heap[h]? = some (.cells #[.int .i64 a, .int .i64 b] 92 (0, 0))) : Kd.C k92 W (some ⟨h, 0, none⟩) 1 [⟨a, b⟩] := by
  refine ⟨rfl, by omega, fun _ => ⟨_, rfl, fun j p hj => ?_⟩⟩
  obtain rfl : j = 0 := by
    rcases Nat.eq_zero_or_pos j with h0 | h0
    · exact h0
    · rw [List.getElem?_eq_none (by simp; omega)] at hj; cases hj
  obtain rfl : (⟨a, b⟩ : S92) = p := by simpa using hj
  refine ⟨_, rfl, k92_mk W ⟨a, b⟩, fun i u hi => ?_⟩
  have e0 := (blk_cell hh 0).trans (rfl : _ = some (Value.int .i64 a))
  have e1 := (blk_cell hh 1).trans (rfl : _ = some (Value.int .i64 b))
  match i, hi with
  | 0, hi => simp at hi; subst hi; simpa [Addr.add] using e0
  | 1, hi => simp at hi; subst hi; simpa [Addr.add, k92, Kd.iso, Kd.pair, Kd.int, Kd.scalar] using e1
  | n + 2, hi => simp at hi
theorem impl_matches.keepA {w : World} {o : Obj} {a : Addr} {v : Value} (h : w.cell? a = some v) : (w.alloc o).cell? a = some v :=
  (((Below.refl w.heap.size w).alloc (Nat.le_refl _) o).cell (World.block_lt_of_cell? w a h)).trans h
theorem impl_matches.keepD {w : World} {a : Addr} {v : Value} (h : w.cell? a = some v) : w.drew.cell? a = some v := h
theorem impl_matches.keepNN {w : World} {n : Nat} {a : Addr} {v : Value} (h : w.cell? a = some v) : (w.drewN n).cell? a = some v :=
  ((pw_below_drewN (Below.refl w.heap.size w) n).cell (World.block_lt_of_cell? w a h)).trans h
theorem impl_matches.top {w : World} {o : Obj} {g : Nat} (h : g = w.heap.size) : (w.alloc o).heap[g]? = some o := by
  subst h; exact blk_new w o
theorem impl_matches.app {ops : Array Oper} {o : Oper} {a : Act} {Q : Exit → Act → World → Prop} {Kc : Act → World → Prop} {w0 W : World} (hw : Region.wanted o (yielded ops a.tmps) = true) (s x : Operand) (ho : o.op = .call { callee := .builtin .append, args := #[s, x], argTypes := #[46, 46] }) (v : Value) (xs ys : List S92) (A : Option Addr) (m c : Nat) (hs : a.eval s = v) (hx : a.eval x = .slice A m c)
    (HO : Kd.R k92 92 W w0.heap.size (fun _ => True) v xs) (HR : Kd.C k92 W A m ys) (HB : Below w0.heap.size w0 W) (hl : xs.length + m ≤ 1048600)
    (h : ∀ v1 w1, Kd.R k92 92 w1 w0.heap.size (fun _ => True) v1 (xs ++ ys) → Below w0.heap.size w0 w1 → W.grownBy w1 v.ownBlock → Kc (a.put o.dst v1) w1) :
    if Region.wanted o (yielded ops a.tmps) = true then Oper.wp Try.prog o a W Kc Q else Kc (a.put o.dst undef) W := by
  refine Kd.R_append_rows_step k92 (w0 := w0) w0.heap.size hw s x 46 92 (.agg #[(.int .i64 0), (.int .i64 0)]) 16 ho Try.underlying46 impl_matches.info2 rfl (by decide) (by omega) v xs ys A m c (fun _ => True) (fun _ => False) hs hx HO HR (fun _ _ h => h) (fun _ h => h.elim) (fun _ _ => trivial) HB HB.size (by omega) ?_
  intro v1 w1 ho hb hg hat
  exact h v1 w1 ho hb hg
/-- A row that is new: none of its blocks is one of the two boxes'. -/
theorem impl_matches.new {α : Type} {d : Kd α} {e base gm gb : Nat} {ok : Nat → Prop} {w W : World} {v : Value} {xs : List α} (h : Kd.R d e W base ok v xs) (h1 : gm < base) (h2 : gb < base) (hb : w.heap.size ≤ base) : Kd.R d e W w.heap.size (fun k => k ≠ gm ∧ k ≠ gb) v xs :=
  Kd.R_lower (Kd.R_mono (Kd.R_bound h) (fun k hk => ⟨by have := hk.2.1; omega, by have := hk.2.1; omega⟩)) hb
theorem impl_matches.Fr_cell {gm gb : Nat} {W W' : World} (hf : impl_MatchSingles_1.Fr gm gb W W') {a : Addr} {v : Value} (h : W.cell? a = some v) (h1 : a.block ≠ gm) (h2 : a.block ≠ gb) : W'.cell? a = some v :=
  (World.cell?_of_block (hf.2 a.block (World.block_lt_of_cell? W a h) h1 h2)).trans h
set_option maxHeartbeats 8000000 in
set_option maxRecDepth 100000 in
theorem impl_matches.calls (w : World) (A0 : Option Addr) (c0 : Nat) (l : List S88) (gL gm gb : Nat) (hC : Kd.C k88 w A0 l.length l) : ∀ (k : Nat) (left : List Int) (ps B : List S92) (m : Int) (vl vp vB : Value) (W : World) (r1 : List S92) (r2 : Int), impl_MatchSingles_1.Inv w W A0 c0 l gL gm gb B m vB → Kd.R (Kd.int .i64) 2 W w.heap.size (fun k => k ≠ gm ∧ k ≠ gb) vl left → Kd.R k92 92 W w.heap.size (fun k => k ≠ gm ∧ k ≠ gb) vp ps → impl_matches.f l k left ps B m = some (r1, r2) →
    Calls Try.prog 102 #[vl, vp, .func (.func 104) #[] #[.pointer (some ⟨gL, 0, none⟩), .pointer (some ⟨gm, 0, none⟩), .pointer (some ⟨gb, 0, none⟩)]] W fun e W' => e = .returned (.tuple #[]) ∧ (∃ v2, impl_MatchSingles_1.Inv w W' A0 c0 l gL gm gb r1 r2 v2) ∧ impl_MatchSingles_1.Fr gm gb W W' := by
  intro k
  have HCC := Aside0.mk hC
  clear hC
  induction k using Nat.strongRecOn with
  | _ k IH =>
  intro left ps B m vl vp vB W r1 r2 hI hl hp h
  cases k with
  | zero => simp [impl_matches.f] at h
  | succ k =>
    have IHa := Aside0.mk IH
    clear IH
    rw [impl_matches.f] at h
    obtain ⟨Al, cl, el⟩ := Kd.R_slice hl
    subst el
    obtain ⟨Ap, cp, ep⟩ := Kd.R_slice hp
    subst ep
    have HI := Aside0.mk hI
    have HL := Aside0.mk hl
    have HP := Aside0.mk hp
    clear hI hl hp
    by_cases hz : left.length = 0
    · rw [if_pos hz] at h
      have HF := Aside0.mk h
      have eg := impl_MatchSingles_1.eg
      have hz1 : ((left.length : Int) == 0) = true := beq_iff_eq.mpr (by omega)
      clear h
      go_enter Try.func102, Try.ntmps102
      go_wp2_with (go_at_fn 104; refine (impl_MatchSingles_1.calls w A0 c0 l gL gm gb HCC.out ps B r1 m r2 vB _ W HI.out HP.out HF.out).mono ?_; rintro e w2 ⟨rfl, hv2, hfr⟩; have HV2 := Aside0.mk hv2; have HFR := Aside0.mk hfr; clear hv2 hfr)
      refine bodyPost_ret (results_none rfl _ _ _) rfl ⟨rfl, HV2.out, HFR.out⟩
    · rw [if_neg hz] at h
      have hz1 : ((left.length : Int) == 0) = false := beq_eq_false_iff_ne.mpr (by omega)
      have HF := Aside0.mk h
      have HB0 := Aside0.mk (Below.refl W.heap.size W)
      clear h
      go_enter Try.func102, Try.ntmps102
      go_wp2
      go_loopg [6] k (fun gq v6 W2 => ∃ (x : Nat) (B1 : List S92) (m1 : Int) (vB1 : Value), v6 = .int .i64 (x : Int) ∧ Aside0 (impl_matches.l0 l gq left ps x B1 m1 = some (r1, r2)) ∧ Aside0 (gq ≤ k) ∧ Aside0 (impl_MatchSingles_1.Inv w W2 A0 c0 l gL gm gb B1 m1 vB1) ∧ Aside0 (impl_MatchSingles_1.Fr gm gb W W2))
      case atStart => exact ⟨1, B, m, vB, rfl, HF, ⟨Nat.le_refl _⟩, HI, ⟨impl_MatchSingles_1.Fr.of_below HB0.out⟩⟩
      case round =>
        clear HF HI HB0
        obtain ⟨x, B1, m1, vB1, rfl, HF, HK, HI, HFR⟩ := hrel
        cases gk with
        | zero => exact absurd HF.out (by simp [impl_matches.l0])
        | succ g =>
          have H := HF.out
          rw [impl_matches.l0] at H
          clear HF
          by_cases hx : x < left.length
          · rw [if_pos hx] at H
            by_cases hg : 1 ≤ x ∧ left.length ≤ 500 ∧ ps.length ≤ 1048576
            · rw [if_pos hg] at H
              obtain ⟨g1, g2, g3⟩ := hg
              obtain ⟨⟨B2, m2⟩, hrec, H⟩ := Option.bind_eq_some_iff.mp H
              simp only at H
              have HRec := Aside0.mk hrec
              have HF := Aside0.mk H
              clear H hrec
              have d1 : decide ((x : Int) < (left.length : Int)) = true := decide_eq_true (by omega)
              have hLr := HFR.out.row HL.out
              have hPr := HFR.out.row HP.out
              have HLr := Aside0.mk hLr
              have HPr := Aside0.mk hPr
              have hcl : left.length ≤ cl := (Kd.R_reads' hLr).2.1
              obtain ⟨A1, c1, hcut1, hC1⟩ := impl_matches.mid left Al cl x g1 (by omega) hcl
              obtain ⟨A2, c2, hcut2, hC2⟩ := impl_matches.fro left Al cl x (by omega) hcl
              have HC1 := Aside0.mk (hC1 _ (Kd.R_reads' hLr).2.2)
              have HC2 := Aside0.mk (hC2 _ (Kd.R_reads' hLr).2.2)
              have HLen : Aside0 (((left.take x).drop 1).length + (left.drop (x + 1)).length ≤ 1000) := ⟨by simp [List.length_take]; omega⟩
              obtain ⟨gl, capl, evl, hgl0, hgl1, _⟩ := Kd.R_form hLr (by omega)
              injection evl with ea _ ec
              subst ea
              subst ec
              have GL : Aside0 (gl ≠ gm ∧ gl ≠ gb ∧ gl < wr.heap.size) := ⟨⟨(hLr.1 gl (by simp [Value.ownBlock])).1, (hLr.1 gl (by simp [Value.ownBlock])).2, hgl1⟩⟩
              have HMG : Aside0 (gm < wr.heap.size ∧ gb < wr.heap.size ∧ w.heap.size ≤ wr.heap.size) := ⟨⟨blk_lt HI.out.hm, blk_lt HI.out.hb, HI.out.b.size⟩⟩
              clear hLr hPr hC1 hC2 hgl0 hgl1
              have hwx : IntKind.i64.wrap ((x : Int) + 1) = (x : Int) + 1 := by rw [impl_MatchSingles_1.wr64]; unfold wrap64; omega
              have hwy : wrap64 ((x : Int) + 1) = (x : Int) + 1 := by unfold wrap64; omega
              replace hcut2 : ∀ W : World, (Instr.slice 25 (.slice (some ⟨gl, 0, none⟩) left.length cl) (some (.int .i64 ((x : Int) + 1))) none none).run Try.prog W = .ok (.slice A2 (left.drop (x + 1)).length c2) W := hcut2
              generalize hD1 : (left.take x).drop 1 = D1 at *
              generalize hD2 : left.drop (x + 1) = D2 at *
              clear hD1 hD2
              go_upto_region 5 with (fail)
              go_cut [6, 7] (fun v6 v7 wc => v6 = .int .i64 (x : Int) ∧ Aside0 (Kd.R (Kd.int .i64) 2 wc wr.heap.size (fun k => wr.heap.size ≤ k) v7 (D1 ++ D2)) ∧ Aside0 (Below wr.heap.size wr wc))
              case first =>
                as_aux_lemma =>
                go_region_held3 (fun _ => True) (trivial) (first | (go_at_call 152; refine (slices_Concat.two D1 D2 ⟨wr.heap.size, 0, none⟩ A1 A2 c1 c2 _ ?cx ?cy ?cA ?cB HLen.out).mono ?_; (case cx => first | exact (blk_cell (impl_matches.top rfl) 0).trans rfl | exact impl_matches.keepD ((blk_cell (impl_matches.top rfl) 0).trans rfl)); (case cy => first | exact (blk_cell (impl_matches.top rfl) 1).trans rfl | exact impl_matches.keepD ((blk_cell (impl_matches.top rfl) 1).trans rfl)); (case cA => exact (Kd.C_below HC1.out (by (repeat (first | exact Below.refl _ _ | (with_reducible refine below_drew1 ?_) | (with_reducible refine below_alloc ?_ _) | (with_reducible refine pw_below_drewN ?_ _)))))); (case cB => exact (Kd.C_below HC2.out (by (repeat (first | exact Below.refl _ _ | (with_reducible refine below_drew1 ?_) | (with_reducible refine below_alloc ?_ _) | (with_reducible refine pw_below_drewN ?_ _)))))); rintro e w7 ⟨v7, rfl, hr7, hb7⟩; have HR7 := Aside0.mk (Kd.R_mono (Kd.R_lower hr7 (below_size (w := wr) (by (repeat (first | exact Below.refl _ _ | (with_reducible refine below_drew1 ?_) | (with_reducible refine below_alloc ?_ _) | (with_reducible refine pw_below_drewN ?_ _)))))) (fun k hk => Nat.le_trans (below_size (w := wr) (by (repeat (first | exact Below.refl _ _ | (with_reducible refine below_drew1 ?_) | (with_reducible refine below_alloc ?_ _) | (with_reducible refine pw_below_drewN ?_ _))))) hk)); have HB7 := Aside0.mk (below_then (B := wr.heap.size) (w := wr) (by (repeat (first | exact Below.refl _ _ | (with_reducible refine below_drew1 ?_) | (with_reducible refine below_alloc ?_ _) | (with_reducible refine pw_below_drewN ?_ _)))) (below_size (w := wr) (by (repeat (first | exact Below.refl _ _ | (with_reducible refine below_drew1 ?_) | (with_reducible refine below_alloc ?_ _) | (with_reducible refine pw_below_drewN ?_ _))))) hb7); clear hr7 hb7))
                all_goals
                  (try go_wp2)
                  go_meet
                  case rel => exact ⟨rfl, HR7, HB7⟩
              case rest =>
                as_aux_lemma =>
                clear HC1 HC2 hcut1 hcut2
                obtain ⟨rfl, HR7, HB7⟩ := hcut
                have hLw := Kd.R_below HLr.out HB7.out
                have hPw := Kd.R_below HPr.out HB7.out
                have HPC := Aside0.mk (Kd.R_reads' hPw).2.2
                have HPc := Aside0.mk (Kd.R_reads' hPw).2.1
                have HPl := Aside0.mk g3
                have HPf : Aside0 (slices_Clone_2_int64_2_int64.f ps = some ps) := ⟨if_pos (by omega)⟩
                have hq0 : wc.cell? ⟨gl, 0, none⟩ = some (.int .i64 (rd left 0)) := (Kd.R_celln (0 : Int) hLw 0 (by omega) (by omega)).1
                have hqx : wc.cell? ⟨gl, x, none⟩ = some (.int .i64 (rd left (x : Int))) := (Kd.R_celln (0 : Int) hLw (x : Int) (by omega) (by omega)).1
                have hlt : gl < wc.heap.size := Nat.lt_of_lt_of_le GL.out.2.2 (below_size HB7.out)
                have q0 : (0 : Int) ≤ (x : Int) := by omega
                have qx : (x : Int) < (left.length : Int) := by omega
                have qp : (0 : Int) < (left.length : Int) := by omega
                have qn : 0 < left.length := by omega
                have ql : ¬ left = [] := fun e => by subst e; simp at qn
                have qxn : x < left.length := hx
                clear hLw hPw
                go_upto_region 6 with (fail)
                go_region_held3 (fun w' => w'.cell? ⟨gl, 0, none⟩ = some (.int .i64 (rd left 0)) ∧ w'.cell? ⟨gl, x, none⟩ = some (.int .i64 (rd left (x : Int)))) ((repeat' (with_reducible refine And.intro ?_ ?_)) <;> ((repeat (first | (with_reducible refine impl_matches.keepD ?_) | (with_reducible refine impl_matches.keepA ?_) | (with_reducible refine impl_matches.keepNN ?_))); (try (first | (with_reducible refine HT9.out _ _ ?_) | (with_reducible refine (HB41.out.cell hlt).trans ?_) | (with_reducible refine (HB31.out.cell hlt).trans ?_))); (first | (with_reducible exact hq0) | (with_reducible exact hqx)))) (first | (go_at_call 153; refine (slices_Clone_2_int64_2_int64.calls Ap cp ps ps _ (Kd.C_below HPC.out (by (repeat (first | exact Below.refl _ _ | (with_reducible refine below_drew1 ?_) | (with_reducible refine below_alloc ?_ _) | (with_reducible refine pw_below_drewN ?_ _))))) HPc.out HPf.out).mono ?_; rintro e w31 ⟨v31, rfl, ho31, hb31⟩; have HO31 := Aside0.mk (Kd.R_lower ho31 (below_size (w := wc) (by (repeat (first | exact Below.refl _ _ | (with_reducible refine below_drew1 ?_) | (with_reducible refine below_alloc ?_ _) | (with_reducible refine pw_below_drewN ?_ _)))))); have HG31 := Aside0.mk hb31; have HB31 := Aside0.mk (below_then (B := wc.heap.size) (w := wc) (by (repeat (first | exact Below.refl _ _ | (with_reducible refine below_drew1 ?_) | (with_reducible refine below_alloc ?_ _) | (with_reducible refine pw_below_drewN ?_ _)))) (below_size (w := wc) (by (repeat (first | exact Below.refl _ _ | (with_reducible refine below_drew1 ?_) | (with_reducible refine below_alloc ?_ _) | (with_reducible refine pw_below_drewN ?_ _))))) hb31); clear ho31 hb31) | (refine impl_matches.app (w0 := wc) ?hw (.tmp 31) (.tmp 40) rfl v31 ps [(⟨rd left 0, rd left (x : Int)⟩ : S92)] _ _ _ rfl rfl ?bO ?bR ?bB ?bL ?_; (case hw => rfl); (case bO => exact Kd.R_below HO31.out (by (repeat (first | exact Below.refl _ _ | (with_reducible refine below_drew1 ?_) | (with_reducible refine below_alloc ?_ _) | (with_reducible refine pw_below_drewN ?_ _))))); (case bR => (refine impl_matches.lit _ _ ?_); (first | ((repeat (first | exact impl_matches.top rfl | exact impl_matches.top (by simp) | (with_reducible refine blk_drew ?_) | (with_reducible refine blk_alloc ?_ _))); done) | ((repeat (with_reducible refine blk_drew ?_)); (refine blk_below ?_ HG31.out); ((repeat (first | exact impl_matches.top rfl | exact impl_matches.top (by simp) | (with_reducible refine blk_drew ?_) | (with_reducible refine blk_alloc ?_ _))); done)))); (case bB => exact (by (repeat (first | exact HB31.out | exact Below.refl _ _ | (with_reducible refine below_drew1 ?_) | (with_reducible refine below_alloc ?_ _) | (with_reducible refine pw_below_drewN ?_ _))))); (case bL => have := HPl.out; simp; omega); intro v41 w41 ho hb hg; have HO41 := Aside0.mk ho; have HB41 := Aside0.mk hb; clear ho hb hg) | (go_at_call 102; refine (IHa.out g (by have := HK.out; omega) (D1 ++ D2) (ps ++ [(⟨rd left 0, rd left (x : Int)⟩ : S92)]) B1 m1 _ _ vB1 _ B2 m2 (HI.out.next (below_then HB7.out (below_size HB7.out) (by (repeat (first | exact HB41.out | exact Below.refl _ _ | (with_reducible refine below_drew1 ?_) | (with_reducible refine below_alloc ?_ _) | (with_reducible refine pw_below_drewN ?_ _)))))) (Kd.R_below (impl_matches.new HR7.out HMG.out.1 HMG.out.2.1 HMG.out.2.2) (by (repeat (first | exact HB41.out | exact Below.refl _ _ | (with_reducible refine below_drew1 ?_) | (with_reducible refine below_alloc ?_ _) | (with_reducible refine pw_below_drewN ?_ _))))) (Kd.R_below (impl_matches.new HO41.out (Nat.lt_of_lt_of_le HMG.out.1 (below_size HB7.out)) (Nat.lt_of_lt_of_le HMG.out.2.1 (below_size HB7.out)) (Nat.le_trans HMG.out.2.2 (below_size HB7.out))) (by (repeat (first | exact Below.refl _ _ | (with_reducible refine below_drew1 ?_) | (with_reducible refine below_alloc ?_ _) | (with_reducible refine pw_below_drewN ?_ _))))) HRec.out).mono ?_; rintro e w9 ⟨rfl, hv9, hf9⟩; have HV9 := Aside0.mk hv9; have HF9 := Aside0.mk ((impl_MatchSingles_1.Fr.of_below (gm := gm) (gb := gb) (W := wc) (by (repeat (first | exact HB41.out | exact Below.refl _ _ | (with_reducible refine below_drew1 ?_) | (with_reducible refine below_alloc ?_ _) | (with_reducible refine pw_below_drewN ?_ _))))).trans hf9); have HT9 : Aside0 (∀ (j : Nat) (v : Value), wc.cell? ⟨gl, j, none⟩ = some v → w9.cell? ⟨gl, j, none⟩ = some v) := ⟨fun j v hv => impl_matches.Fr_cell HF9.out hv GL.out.1 GL.out.2.1⟩; clear hv9 hf9))
                all_goals
                  obtain ⟨vB2, hI9⟩ := HV9.out
                  have HI9 := Aside0.mk hI9
                  have HFR9 := Aside0.mk ((HFR.out.trans (impl_MatchSingles_1.Fr.of_below HB7.out)).trans HF9.out)
                  clear hI9 HV9 HI HFR HR7 HB7 hq0 hqx HPC HPc HLr HPr HF9 HT9 HO41 HB41 HO31 HB31 HG31
                  go_wp2
                  go_roundg g
                  case measure => omega
                  case rel => exact ⟨x + 1, B2, m2, vB2, (by first | rfl | (rw [hwx]; rfl) | (rw [hwy]; rfl)), HF, ⟨by have := HK.out; omega⟩, HI9, HFR9⟩
            · rw [if_neg hg] at H; cases H
          · rw [if_neg hx] at H
            have e := Option.some.inj H
            simp only [Prod.mk.injEq] at e
            obtain ⟨rfl, rfl⟩ := e
            have d1 : decide ((x : Int) < (left.length : Int)) = false := decide_eq_false (by omega)
            clear H
            go_wp2
            refine bodyPost_end (results_none rfl _ _ _) rfl ⟨rfl, ⟨vB1, HI.out⟩, HFR.out⟩

/-! ### impl_members: function 103 -/
def impl_members.l0 : Nat → Int → List Int → Int → Option (List Int)
  | 0, _, _, _ => none
  | k + 1, x0, x3, x4 => if 0 ≤ x4 then (if (shr .i64 x0 x4) = 0 then (some x3) else (if (Go.bits .and .i64 (shr .i64 x0 x4) 1) = 1 then (if x3.length < 17592186044416 then (impl_members.l0 k x0 (x3 ++ [x4]) (wrap64 (x4 + 1))) else (none)) else (impl_members.l0 k x0 x3 (wrap64 (x4 + 1))))) else (none)
def impl_members.f (k : Nat) (a0 : Int) : Option (List Int) := impl_members.l0 k a0 ([] : List Int) 0
theorem impl_members.mono_l : ∀ k, (∀ y0 y1 y2, LeO (impl_members.l0 k y0 y1 y2) (impl_members.l0 (k + 1) y0 y1 y2))
  | 0 => fun _ _ _ r h => by simp [impl_members.l0] at h
  | k + 1 => by
    have ih0 := impl_members.mono_l k
    · intro y0 y1 y2
      unfold impl_members.l0
      repeat' first
      | (with_reducible exact ih0 _ _ _)
      | (with_reducible exact LeO.refl _)
      | (with_reducible exact LeO.none _)
      | (with_reducible refine LeO.ite ?_ ?_)
      | (with_reducible refine LeO.bind ?_ (fun _ => ?_))
      | (with_reducible refine allG_mono _ (fun _ => ?_))
      | (with_reducible refine idxG_mono _ (fun _ => ?_))
      | exact ih0 _ _ _
      | exact LeO.none _
      | refine LeO.ite ?_ ?_
      | refine LeO.bind ?_ (fun _ => ?_)
theorem impl_members.mono : ∀ a0 k, LeO (impl_members.f k a0) (impl_members.f (k + 1) a0) := by
  intro a0 k
  have ih0 := impl_members.mono_l k
  unfold impl_members.f
  repeat' first
      | (with_reducible exact ih0 _ _ _)
      | (with_reducible exact LeO.refl _)
      | (with_reducible exact LeO.none _)
      | (with_reducible refine LeO.ite ?_ ?_)
      | (with_reducible refine LeO.bind ?_ (fun _ => ?_))
      | (with_reducible refine allG_mono _ (fun _ => ?_))
      | (with_reducible refine idxG_mono _ (fun _ => ?_))
      | exact ih0 _ _ _
      | exact LeO.none _
      | refine LeO.ite ?_ ?_
      | refine LeO.bind ?_ (fun _ => ?_)
set_option maxHeartbeats 8000000 in
set_option maxRecDepth 100000 in
theorem impl_members.calls (k : Nat) (a0 : Int) (r : List Int) (w : World) (h : impl_members.f k a0 = some r) :
    Calls Try.prog 103 #[.int .i64 a0] w fun e w' => ∃ v0_ : Value, e = .returned (v0_) ∧ Kd.R (Kd.int .i64) 2 w' w.heap.size (fun _ => True) v0_ r ∧ Below w.heap.size w w' := by
  have HB := Aside0.mk (Below.refl w.heap.size w)
  have H : (impl_members.l0 k a0 ([] : List Int) 0) = some r := h
  clear h
  have H' := Aside0.mk H
  clear H
  go_enter Try.func103, Try.ntmps103
  go_wp2
  go_loopg [3, 4] k (fun kq v3 v4 w' => ∃ (x3_1 : List Int) (x4_1 : Int), v4 = .int .i64 x4_1 ∧ Aside0 (impl_members.l0 kq a0 x3_1 x4_1 = some r) ∧ Aside0 (kq ≤ k) ∧ Aside0 (Kd.R (Kd.int .i64) 2 w' w.heap.size (fun _ => True) v3 x3_1) ∧ Aside0 (Below w.heap.size w w'))
  case atStart => exact ⟨(([] : List Int)), (0), (by first | rfl | (simp; done) | (simp [*]; done)), H', ⟨Nat.le_refl _⟩, ⟨by first | exact Kd.R_nil _ _ _ _ _ | exact Kd.N_nil _ _ _ _ _ | exact Kd.V_nil _ _ _ _ _ | exact Kd.Q_nil _ _ _ _ _ | exact Kd.S_nil _ _ _ _ _⟩, ⟨by repeat (first | (with_reducible first | exact HB.out | apply below_alloc | apply pw_below_drewN | apply below_drew1) | exact HB.out)⟩⟩
  case round =>
    clear H'
    try clear c1
    obtain ⟨x3_1, x4_1, rfl, HA, HK1, HO_3, HB⟩ := hrel
    cases gk with
    | zero => exact absurd HA.out (by simp [impl_members.l0])
    | succ k1 =>
      have H := HA.out
      clear HA
      simp only [impl_members.l0] at H
      by_cases c2 : 0 ≤ x4_1
      · rw [if_pos c2] at H
        have c2b0 := eq_true c2
        have c2b1 : decide (0 ≤ x4_1) = true := decide_eq_true c2
        clear c2
        obtain ⟨ji3, hji3⟩ : ∃ j_ : Int, (shr .i64 a0 x4_1) = j_ := ⟨_, rfl⟩
        replace H : (if (ji3) = 0 then (some x3_1) else (if (Go.bits .and .i64 (ji3) 1) = 1 then (if x3_1.length < 17592186044416 then (impl_members.l0 k1 a0 (x3_1 ++ [x4_1]) (wrap64 (x4_1 + 1))) else (none)) else (impl_members.l0 k1 a0 x3_1 (wrap64 (x4_1 + 1))))) = some r := by first | (rw [hji3] at H; exact H) | (simp only [hji3] at H ⊢; exact H)
        have hji3_ : (a0 / 2 ^ min x4_1.toNat 64) = ji3 := hji3
        have hji3z : x4_1 ≤ 64 → (a0 / 2 ^ x4_1.toNat) = ji3 := shr_small hji3
        by_cases c4 : (ji3) = 0
        · rw [if_pos c4] at H
          have c4b0 : ((ji3) == 0) = true := beq_iff_eq.mpr c4
          have c4b1 : ((ji3) != 0) = false := bne_eq_false_iff_eq.mpr c4
          clear c4
          obtain rfl := Option.some.inj H
          go_wp2
          go_ret
          exact ⟨_, by first | rfl | (simp [errW_none, errW_some] <;> rfl) | (simp only [← hji3]; first | rfl | (simp [errW_none, errW_some] <;> rfl)) | (simp [*, errW_none, errW_some] <;> rfl), by (with_reducible repeat (first | apply Kd.R_alloc | apply Kd.R_drewN | apply Kd.R_drew)); exact HO_3.out, by repeat (first | (with_reducible first | exact HB.out | apply below_alloc | apply pw_below_drewN | apply below_drew1) | exact HB.out)⟩
        · rw [if_neg c4] at H
          have c4b0 : ((ji3) == 0) = false := beq_eq_false_iff_ne.mpr c4
          have c4b1 : ((ji3) != 0) = true := bne_iff_ne.mpr c4
          have c5b0 := eq_true (of_decide_eq_true (by first | (with_reducible assumption) | assumption) : 0 ≤ x4_1)
          by_cases c7 : (Go.bits .and .i64 (ji3) 1) = 1
          · rw [if_pos c7] at H
            have c7b0 : ((Go.bits .and .i64 (ji3) 1) == 1) = true := beq_iff_eq.mpr c7
            have c7b1 : ((Go.bits .and .i64 (ji3) 1) != 1) = false := bne_eq_false_iff_eq.mpr c7
            clear c7
            by_cases c8 : x3_1.length < 17592186044416
            · rw [if_pos c8] at H
              have LMc8 := Aside0.mk c8
              clear c8
              obtain ⟨y137, hy137⟩ : ∃ y_ : List Int, y_ = (x3_1 ++ [x4_1]) := ⟨_, rfl⟩
              replace H : (impl_members.l0 k1 a0 y137 (wrap64 (x4_1 + 1))) = some r := by first | (rw [hy137]; with_reducible exact H) | (have H2_ := (Option.bind_some _ _).symm.trans H; rw [hy137]; with_reducible exact H2_) | (have H2_ := (Option.bind_some _ _).symm.trans H; with_reducible exact H2_) | with_reducible exact H | (rw [hy137]; exact H) | exact H
              have Ny137 := Aside0.mk hy137
              clear hy137
              have H' := Aside0.mk H
              clear H
              go_wp2_with (first | ((with_reducible refine gate_builtin (b := .append) (xs := #[.tmp 16, .tmp 18]) rfl ?_); at_builtin; refine Kd.R_append (Kd.int .i64) (w0 := w) w.heap.size rfl (.tmp 16) (.tmp 18) 25 2 (.int .i64 0) 8 rfl Try.underlying25 info2 rfl (by decide) (by omega) u3 x3_1 x4_1 [.int .i64 x4_1] (fun _ => True) (fun _ => False) rfl rfl ?aP (fun _ hk => hk.elim) ?aF ?aO ?aB ?aS ?aL ?_; (case aP => exact rfl); (case aB => exact (by repeat (first | (with_reducible first | exact HB.out | apply below_alloc | apply pw_below_drewN | apply below_drew1) | exact HB.out))); (case aF => exact (fun _ _ => trivial)); (case aO => exact (by (with_reducible repeat (first | apply Kd.R_alloc | apply Kd.R_drewN | apply Kd.R_drew)); exact HO_3.out)); (case aS => exact (below_size (by repeat (first | (with_reducible first | exact HB.out | apply below_alloc | apply pw_below_drewN | apply below_drew1) | exact HB.out)))); (case aL => have := LMc8.out; omega); intro v138 w9 ho hb hg hat; rw [← Ny137.out] at ho; have n0_ := Aside0.mk (hb); have n1_ := Aside0.mk (ho); clear HB; (try clear HO_3); have HB := n0_; have HO139 := n1_; clear n0_ n1_; clear ho hb hg hat))
              go_roundg k1
              case measure => have := HK1.out; omega
              case rel => exact ⟨(y137), (wrap64 (x4_1 + 1)), (by first | rfl | (simp; done) | (simp [*]; done)), H', ⟨by have := HK1.out; omega⟩, ⟨by (with_reducible repeat (first | apply Kd.R_alloc | apply Kd.R_drewN | apply Kd.R_drew)); exact HO139.out⟩, ⟨by repeat (first | (with_reducible first | exact HB.out | apply below_alloc | apply pw_below_drewN | apply below_drew1) | exact HB.out)⟩⟩
            · rw [if_neg c8] at H
              exact absurd H (by simp)
          · rw [if_neg c7] at H
            have c7b0 : ((Go.bits .and .i64 (ji3) 1) == 1) = false := beq_eq_false_iff_ne.mpr c7
            have c7b1 : ((Go.bits .and .i64 (ji3) 1) != 1) = true := bne_iff_ne.mpr c7
            have H' := Aside0.mk H
            clear H
            go_wp2
            go_roundg k1
            case measure => have := HK1.out; omega
            case rel => exact ⟨(x3_1), (wrap64 (x4_1 + 1)), (by first | rfl | (simp; done) | (simp [*]; done)), H', ⟨by have := HK1.out; omega⟩, ⟨by (with_reducible repeat (first | apply Kd.R_alloc | apply Kd.R_drewN | apply Kd.R_drew)); exact HO_3.out⟩, ⟨by repeat (first | (with_reducible first | exact HB.out | apply below_alloc | apply pw_below_drewN | apply below_drew1) | exact HB.out)⟩⟩
      · rw [if_neg c2] at H
        exact absurd H (by simp)

/-! ### impl_MatchSingles: function 34 -/
def impl_MatchSingles.f (k : Nat) (l0 : List S88) : Option (List S92 × Int × Int) :=
  (impl_yarnsCode.f l0 true).bind fun c =>
    if c = 0 then (if l0.length % 2 = 1 then some ([], 0, 4)
      else if l0.length ≤ 20 then (impl_members.f k (wrap64 (shl .i64 1 (l0.length : Int) - 1))).bind fun left => (impl_matches.f l0 k left [] [] (-1)).bind fun r => some (r.1, r.2, 0)
      else none)
    else some ([], 0, c)
theorem impl_MatchSingles.mono : ∀ a0 k, LeO (impl_MatchSingles.f k a0) (impl_MatchSingles.f (k + 1) a0) := by
  intro a0 k
  unfold impl_MatchSingles.f
  repeat' first
    | exact (impl_matches.mono_l _ _).1 _ _ _ _
    | exact impl_members.mono _ _
    | (with_reducible exact LeO.refl _)
    | (with_reducible refine LeO.ite ?_ ?_)
    | (with_reducible refine LeO.bind ?_ (fun _ => ?_))
set_option maxHeartbeats 8000000 in
set_option maxRecDepth 100000 in
theorem impl_MatchSingles.calls (k : Nat) (A0 : Option Addr) (c0 : Nat) (l0 : List S88) (r1 : List S92) (r2 r3 : Int) (w : World) (hr0 : Kd.C k88 w A0 l0.length l0) (hc0 : l0.length ≤ c0) (h : impl_MatchSingles.f k l0 = some (r1, r2, r3)) :
    Calls Try.prog 34 #[.slice A0 l0.length c0] w fun e w' => ∃ v0_ : Value, e = .returned (.tuple #[v0_, .int .i64 r2, .int .i64 r3]) ∧ Kd.R k92 92 w' w.heap.size (fun _ => True) v0_ r1 ∧ Below w.heap.size w w' := by
  unfold impl_MatchSingles.f at h
  obtain ⟨c, hc, h⟩ := Option.bind_eq_some_iff.mp h
  have HC := Aside0.mk hc
  have HR := Aside0.mk hr0
  have HC0 := Aside0.mk hc0
  clear hc hr0 hc0
  by_cases hz : c = 0
  · rw [if_pos hz] at h
    subst hz
    have hz1 : ((0 : Int) != 0) = false := rfl
    by_cases hodd : l0.length % 2 = 1
    · rw [if_pos hodd] at h
      have e := Option.some.inj h
      simp only [Prod.mk.injEq] at e
      obtain ⟨rfl, rfl, rfl⟩ := e
      have ho0 : (l0.length : Int).tmod 2 = 1 := by rw [Int.tmod_eq_emod_of_nonneg (by omega)]; omega
      have ho1 : ((l0.length : Int).tmod 2 == 1) = true := beq_iff_eq.mpr ho0
      clear h
      go_enter Try.func34, Try.ntmps34
      go_wp2_with (first | ((with_reducible refine gate_dst (N := 1) rfl ?_); refine box_event ?hg (N := 1) ?hd (cs := #[.slice A0 l0.length c0]) (t := 37) ?hr ?_; (case hd => rfl); (case hg => rfl); (case hr => first | (go_simp; done) | (go_simp; rfl)); intro gL hgL w1 hL1 hb1; have BL := Aside0.mk hL1; have B1 := Aside0.mk hb1; have GL := Aside0.mk hgL; clear hL1 hb1 hgL; have hcL : w1.cell? ⟨gL, 0, none⟩ = some (.slice A0 l0.length c0) := (blk_cell BL.out 0).trans rfl) | (go_at_call 88; refine (impl_yarnsCode.calls A0 c0 l0 true _ _ (Kd.C_below HR.out B1.out) HC0.out HC.out).mono ?_; rintro e w4 ⟨rfl, hb4⟩; have BL4 := Aside0.mk (blk_below BL.out hb4); have B4 := Aside0.mk (below_then B1.out B1.out.size hb4); clear hb4 BL B1 hcL; have hcL : w4.cell? ⟨gL, 0, none⟩ = some (.slice A0 l0.length c0) := (blk_cell BL4.out 0).trans rfl))
      go_wp2
      go_ret3
      exact ⟨_, rfl, Kd.R_nil _ _ _ _ _, B4.out⟩
    · rw [if_neg hodd] at h
      have ho0 : (l0.length : Int).tmod 2 = 0 := by rw [Int.tmod_eq_emod_of_nonneg (by omega)]; omega
      have ho1 : ((l0.length : Int).tmod 2 == 1) = false := beq_eq_false_iff_ne.mpr (by omega)
      by_cases hn : l0.length ≤ 20
      · rw [if_pos hn] at h
        obtain ⟨left, hleft, h⟩ := Option.bind_eq_some_iff.mp h
        obtain ⟨⟨B2, m2⟩, hm, h⟩ := Option.bind_eq_some_iff.mp h
        have e := Option.some.inj h
        simp only [Prod.mk.injEq] at e
        obtain ⟨rfl, rfl, rfl⟩ := e
        clear h
        obtain ⟨j, hj⟩ : ∃ j_ : Int, (shl .i64 1 (l0.length : Int)) = j_ := ⟨_, rfl⟩
        rw [hj] at hleft
        have hj_ : (IntKind.i64.wrap (1 * 2 ^ min (l0.length : Int).toNat 64)) = j := hj
        have hjz : (l0.length : Int) ≤ 64 → (IntKind.i64.wrap (1 * 2 ^ (l0.length : Int).toNat)) = j := shl_small hj
        have hjp : (IntKind.i64.wrap (1 * 2 ^ min l0.length 64)) = j := hj_
        have hjq : (l0.length : Int) ≤ 64 → (IntKind.i64.wrap (1 * 2 ^ l0.length)) = j := hjz
        have hjr : (IntKind.i64.wrap (2 ^ min l0.length 64)) = j := by have h_ := hjp; rw [Int.one_mul] at h_; exact h_
        have hjs : (l0.length : Int) ≤ 64 → (IntKind.i64.wrap (2 ^ l0.length)) = j := fun hle_ => by have h_ := hjq hle_; rw [Int.one_mul] at h_; exact h_
        have hju : (IntKind.i64.wrap (2 ^ min (l0.length : Int).toNat 64)) = j := by have h_ := hj_; rw [Int.one_mul] at h_; exact h_
        have hjv : (l0.length : Int) ≤ 64 → (IntKind.i64.wrap (2 ^ (l0.length : Int).toNat)) = j := fun hle_ => by have h_ := hjz hle_; rw [Int.one_mul] at h_; exact h_
        have hjy : (wrap64 (1 * 2 ^ min (l0.length : Int).toNat 64)) = j := (i64_w _).symm.trans hj_
        have hjx : (l0.length : Int) ≤ 64 → (wrap64 (1 * 2 ^ (l0.length : Int).toNat)) = j := fun h_ => (i64_w _).symm.trans (hjz h_)
        have hjw : wrap64 (2 ^ l0.length) = j := (impl_MatchSingles_1.wr64 _).symm.trans (hjs (by omega))
        have HLf := Aside0.mk hleft
        have HM := Aside0.mk hm
        clear hleft hm
        have hmf : ∀ (fn : Fn) (first cap : Array Value) (w : World), (Instr.makeFunc fn first cap).run Try.prog w = .ok (.func fn first cap) w := fun _ _ _ _ => rfl
        go_enter Try.func34, Try.ntmps34
        go_upto_region 6 with (first | ((with_reducible refine gate_dst (N := 1) rfl ?_); refine box_event ?hg (N := 1) ?hd (cs := #[.slice A0 l0.length c0]) (t := 37) ?hr ?_; (case hd => rfl); (case hg => rfl); (case hr => first | (go_simp; done) | (go_simp; rfl)); intro gL hgL w1 hL1 hb1; have BL := Aside0.mk hL1; have B1 := Aside0.mk hb1; have GL := Aside0.mk hgL; clear hL1 hb1 hgL; have hcL : w1.cell? ⟨gL, 0, none⟩ = some (.slice A0 l0.length c0) := (blk_cell BL.out 0).trans rfl) | (go_at_call 88; refine (impl_yarnsCode.calls A0 c0 l0 true _ _ (Kd.C_below HR.out B1.out) HC0.out HC.out).mono ?_; rintro e w4 ⟨rfl, hb4⟩; have BL4 := Aside0.mk (blk_below BL.out hb4); have B4 := Aside0.mk (below_then B1.out B1.out.size hb4); clear hb4 BL B1 hcL; have hcL : w4.cell? ⟨gL, 0, none⟩ = some (.slice A0 l0.length c0) := (blk_cell BL4.out 0).trans rfl))
        go_upto_region 8 with (first | ((with_reducible refine gate_dst (N := 6) rfl ?_); refine box_event ?hg (N := 6) ?hd (cs := #[.slice none 0 0]) (t := 46) ?hr ?_; (case hd => rfl); (case hg => rfl); (case hr => first | (go_simp; done) | (go_simp; rfl)); intro gb hgb w6 hb6 hbb; have BB6 := Aside0.mk hb6; have BL6 := Aside0.mk (blk_below BL4.out hbb); have B6 := Aside0.mk (below_then B4.out B4.out.size hbb); have LB := Aside0.mk (show gL < gb by rw [hgb]; exact blk_lt BL4.out); clear BL4 B4 hb6 hbb hgb) | ((with_reducible refine gate_dst (N := 7) rfl ?_); refine box_event ?hg (N := 7) ?hd (cs := #[.int .i64 0]) (t := 2) ?hr ?_; (case hd => rfl); (case hg => rfl); (case hr => first | (go_simp; done) | (go_simp; rfl)); intro gm hgm w7 hm7 hbb; have BM7 := Aside0.mk hm7; have BB7 := Aside0.mk (blk_below BB6.out hbb); have BL7 := Aside0.mk (blk_below BL6.out hbb); have B7 := Aside0.mk (below_then B6.out B6.out.size hbb); have LM := Aside0.mk (show gb < gm by rw [hgm]; exact blk_lt BB6.out); clear BL6 BB6 B6 hm7 hbb hgm; have hcm : w7.cell? ⟨gm, 0, none⟩ = some (.int .i64 0) := (blk_cell BM7.out 0).trans rfl; have hfm := blk_frozen BM7.out 0))
        have LG := Aside0.mk (show w.heap.size ≤ gL by rw [GL.out]; exact Nat.le_refl _)
        have BM8 := Aside0.mk (blk_put (cs := #[.int .i64 0]) BM7.out 0 (.int .i64 (-1)) rfl)
        have BB8 := Aside0.mk (blk_far BB7.out (p := ⟨gm, 0, none⟩) (by have := LM.out; show gb ≠ gm; omega) (.int .i64 (-1)))
        have BL8 := Aside0.mk (blk_far BL7.out (p := ⟨gm, 0, none⟩) (by have := LM.out; have := LB.out; show gL ≠ gm; omega) (.int .i64 (-1)))
        have B8 := Aside0.mk (below_set (g := gm) (j := 0) (v := .int .i64 (-1)) B7.out (by have := LM.out; have := LB.out; have := LG.out; omega))
        clear BM7 BB7 BL7 B7 hcm hfm hcL
        generalize w7.setCell ⟨gm, 0, none⟩ (.int .i64 (-1)) = w8 at *
        have HI : Aside0 (impl_MatchSingles_1.Inv w w8 A0 c0 l0 gL gm gb [] (-1) (.slice none 0 0)) := ⟨B8.out, ⟨LG.out, by have := LG.out; have := LB.out; have := LM.out; omega, by have := LG.out; have := LB.out; omega⟩, ⟨by have := LB.out; have := LM.out; omega, by have := LB.out; omega, by have := LM.out; omega⟩, BL8.out, BM8.out, BB8.out, Kd.R_nil _ _ _ _ _⟩
        have hcL : w8.cell? ⟨gL, 0, none⟩ = some (.slice A0 l0.length c0) := (blk_cell BL8.out 0).trans rfl
        have LMW := Aside0.mk (And.intro (blk_lt BM8.out) (blk_lt BB8.out))
        clear BM8 BB8 BL8
        go_wp2_with (first | (go_at_call 103; refine (impl_members.calls k _ left _ (by first | exact HLf.out | (rw [hjw]; exact HLf.out))).mono ?_; rintro e w9 ⟨v9, rfl, hr9, hb9⟩; have HI9 := Aside0.mk (HI.out.next hb9); have HR9 := Aside0.mk (Kd.R_lower (Kd.R_mono (Kd.R_bound hr9) (fun k hk => (show k ≠ gm ∧ k ≠ gb from ⟨by have := hk.2.1; have := LMW.out.1; omega, by have := hk.2.1; have := LMW.out.2; omega⟩))) B8.out.size); clear hr9 hb9) | (go_at_call 102; refine (impl_matches.calls w A0 c0 l0 gL gm gb HR.out k left [] [] (-1) v9 (.slice none 0 0) (.slice none 0 0) _ B2 m2 HI9.out HR9.out (Kd.R_nil _ _ _ _ _) HM.out).mono ?_; rintro e w10 ⟨rfl, ⟨v10, hI10⟩, _⟩; have HI10 := Aside0.mk hI10; clear hI10 HI HI9 hcL; have hcb : w10.cell? ⟨gb, 0, none⟩ = some v10 := (blk_cell HI10.out.hb 0).trans rfl; have hcm : w10.cell? ⟨gm, 0, none⟩ = some (.int .i64 m2) := (blk_cell HI10.out.hm 0).trans rfl))
        refine wp_region_still_lit (by kernel_rfl) (by kernel_rfl) ?_
        repeat still_step
        refine wpStill_nil ?_
        change Exit.then _ _ _ _ (w10.drewN 1)
        go_wp2
        go_ret3
        exact ⟨_, rfl, Kd.R_mono (Kd.R_drewN HI10.out.rb 1) (fun _ _ => trivial), pw_below_drewN HI10.out.b 1⟩
      · rw [if_neg hn] at h; cases h
  · rw [if_neg hz] at h
    have e := Option.some.inj h
    simp only [Prod.mk.injEq] at e
    obtain ⟨rfl, rfl, rfl⟩ := e
    have hz1 : (c != 0) = true := bne_iff_ne.mpr hz
    clear h
    go_enter Try.func34, Try.ntmps34
    go_wp2_with (first | ((with_reducible refine gate_dst (N := 1) rfl ?_); refine box_event ?hg (N := 1) ?hd (cs := #[.slice A0 l0.length c0]) (t := 37) ?hr ?_; (case hd => rfl); (case hg => rfl); (case hr => first | (go_simp; done) | (go_simp; rfl)); intro gL hgL w1 hL1 hb1; have BL := Aside0.mk hL1; have B1 := Aside0.mk hb1; have GL := Aside0.mk hgL; clear hL1 hb1 hgL; have hcL : w1.cell? ⟨gL, 0, none⟩ = some (.slice A0 l0.length c0) := (blk_cell BL.out 0).trans rfl) | (go_at_call 88; refine (impl_yarnsCode.calls A0 c0 l0 true _ _ (Kd.C_below HR.out B1.out) HC0.out HC.out).mono ?_; rintro e w4 ⟨rfl, hb4⟩; have BL4 := Aside0.mk (blk_below BL.out hb4); have B4 := Aside0.mk (below_then B1.out B1.out.size hb4); clear hb4 BL B1 hcL; have hcL : w4.cell? ⟨gL, 0, none⟩ = some (.slice A0 l0.length c0) := (blk_cell BL4.out 0).trans rfl))
    go_ret3
    exact ⟨_, rfl, Kd.R_nil _ _ _ _ _, B4.out⟩

/-! ### laws_eqInt64A2: function 106 -/
/-- Both numbers are alike. -/
def laws_eqInt64A2.f (a0_0 a0_1 a1_0 a1_1 : Int) : Option Bool := if a0_0 = a1_0 then (if a0_1 = a1_1 then some true else some false) else some false
set_option maxHeartbeats 8000000 in
set_option maxRecDepth 100000 in
theorem laws_eqInt64A2.calls (a0_0 : Int) (a0_1 : Int) (a1_0 : Int) (a1_1 : Int) (r : Bool) (w : World) (h : laws_eqInt64A2.f a0_0 a0_1 a1_0 a1_1 = some r) :
    Calls Try.prog 106 #[.agg #[.int .i64 a0_0, .int .i64 a0_1], .agg #[.int .i64 a1_0, .int .i64 a1_1]] w fun e w' => e = .returned (.bool r) ∧ Below w.heap.size w w' := by
  unfold laws_eqInt64A2.f at h
  have HB0 : Aside0 (Below w.heap.size w ((w.alloc (.cells #[.int .i64 a0_0, .int .i64 a0_1] 92)).alloc (.cells #[.int .i64 a1_0, .int .i64 a1_1] 92))) := ⟨below_alloc (below_alloc (Below.refl _ w) _) _⟩
  have HG1 : Aside0 (((w.alloc (.cells #[.int .i64 a0_0, .int .i64 a0_1] 92)).alloc (.cells #[.int .i64 a1_0, .int .i64 a1_1] 92)).heap[w.heap.size]? = some (.cells #[.int .i64 a0_0, .int .i64 a0_1] 92 (0, 0))) := ⟨blk_alloc (blk_new w _) _⟩
  have HG2 : Aside0 (((w.alloc (.cells #[.int .i64 a0_0, .int .i64 a0_1] 92)).alloc (.cells #[.int .i64 a1_0, .int .i64 a1_1] 92)).heap[w.heap.size + 1]? = some (.cells #[.int .i64 a1_0, .int .i64 a1_1] 92 (0, 0))) := ⟨by have z := blk_new (w.alloc (.cells #[.int .i64 a0_0, .int .i64 a0_1] 92)) (.cells #[.int .i64 a1_0, .int .i64 a1_1] 92); simpa using z⟩
  go_enter Try.func106, Try.ntmps106
  go_wp2
  generalize ((w.alloc (.cells #[.int .i64 a0_0, .int .i64 a0_1] 92)).alloc (.cells #[.int .i64 a1_0, .int .i64 a1_1] 92)) = W0 at *
  go_loopg [5] 2 (fun gg v5 wr => ∃ kk : Nat, kk + gg = 2 ∧ v5 = .int .i64 (kk : Int) ∧ Aside0 (Below w.heap.size w wr) ∧ Aside0 (wr.heap[w.heap.size]? = some (.cells #[.int .i64 a0_0, .int .i64 a0_1] 92 (0, 0))) ∧ Aside0 (wr.heap[w.heap.size + 1]? = some (.cells #[.int .i64 a1_0, .int .i64 a1_1] 92 (0, 0))) ∧ Aside0 ((1 ≤ kk → a0_0 = a1_0) ∧ (2 ≤ kk → a0_1 = a1_1)))
  case atStart => exact ⟨0, by omega, rfl, HB0, HG1, HG2, ⟨fun z => absurd z (by omega), fun z => absurd z (by omega)⟩⟩
  case round =>
    clear HB0 HG1 HG2
    obtain ⟨kk, hkk, rfl, HB, H1, H2, HE⟩ := hrel
    rcases (by omega : kk = 0 ∨ kk = 1 ∨ kk = 2) with rfl | rfl | rfl
    · have hx : wr.cell? ⟨w.heap.size, 0, none⟩ = some (.int .i64 a0_0) := (blk_cell H1.out 0).trans rfl
      have hy : wr.cell? ⟨w.heap.size + 1, 0, none⟩ = some (.int .i64 a1_0) := (blk_cell H2.out 0).trans rfl
      obtain rfl : gk = 1 + 1 := by omega
      by_cases c : a0_0 = a1_0
      · have cA := Aside0.mk c
        have cb0 : (a0_0 == a1_0) = true := beq_iff_eq.mpr c
        have cb1 : (a0_0 != a1_0) = false := bne_eq_false_iff_eq.mpr c
        clear c
        go_wp2
        repeat (go_quiet (fail); try go_wp2)
        go_roundg 1
        case measure => omega
        case rel => exact ⟨1, by omega, rfl, ⟨by repeat (first | exact HB.out | apply pw_below_drewN | apply below_drew1)⟩, ⟨by first | exact H1.out | simpa using H1.out⟩, ⟨by first | exact H2.out | simpa using H2.out⟩, ⟨fun _ => cA.out, fun z => absurd z (by omega)⟩⟩
      · rw [if_neg c] at h
        obtain rfl := Option.some.inj h
        have cb0 : (a0_0 == a1_0) = false := beq_eq_false_iff_ne.mpr c
        have cb1 : (a0_0 != a1_0) = true := bne_iff_ne.mpr c
        clear c
        go_wp2
        repeat (go_quiet (fail); try go_wp2)
        go_ret
        exact ⟨rfl, by repeat (first | exact HB.out | apply pw_below_drewN | apply below_drew1)⟩
    · have hx : wr.cell? ⟨w.heap.size, 1, none⟩ = some (.int .i64 a0_1) := (blk_cell H1.out 1).trans rfl
      have hy : wr.cell? ⟨w.heap.size + 1, 1, none⟩ = some (.int .i64 a1_1) := (blk_cell H2.out 1).trans rfl
      obtain rfl : gk = 0 + 1 := by omega
      rw [if_pos (HE.out.1 (by omega))] at h
      by_cases c : a0_1 = a1_1
      · have cA := Aside0.mk c
        have cb0 : (a0_1 == a1_1) = true := beq_iff_eq.mpr c
        have cb1 : (a0_1 != a1_1) = false := bne_eq_false_iff_eq.mpr c
        clear c
        go_wp2
        repeat (go_quiet (fail); try go_wp2)
        go_roundg 0
        case measure => omega
        case rel => exact ⟨2, by omega, rfl, ⟨by repeat (first | exact HB.out | apply pw_below_drewN | apply below_drew1)⟩, ⟨by first | exact H1.out | simpa using H1.out⟩, ⟨by first | exact H2.out | simpa using H2.out⟩, ⟨fun _ => HE.out.1 (by omega), fun _ => cA.out⟩⟩
      · rw [if_neg c] at h
        obtain rfl := Option.some.inj h
        have cb0 : (a0_1 == a1_1) = false := beq_eq_false_iff_ne.mpr c
        have cb1 : (a0_1 != a1_1) = true := bne_iff_ne.mpr c
        clear c
        go_wp2
        repeat (go_quiet (fail); try go_wp2)
        go_ret
        exact ⟨rfl, by repeat (first | exact HB.out | apply pw_below_drewN | apply below_drew1)⟩
    · rw [if_pos (HE.out.1 (by omega)), if_pos (HE.out.2 (by omega))] at h
      obtain rfl := Option.some.inj h
      go_wp2
      go_ret
      exact ⟨rfl, by repeat (first | exact HB.out | apply pw_below_drewN | apply below_drew1)⟩

end Go.Proofs.Ytjhjabibkkhmjaa.XFnExactMatchSingles
