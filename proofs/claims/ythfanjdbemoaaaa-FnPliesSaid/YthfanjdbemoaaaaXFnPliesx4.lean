/- The functions that the law FnPlies reaches: each as a Lean function, and that its call does what that function says; no conditions. -/
import Derived.Test.YthfanjdbemoaaaaXFnPliesx0
namespace Go.Proofs.Ythfanjdbemoaaaa.XFnPlies
open Go.RowKit Go.Proofs.YthfanjdbemoaaaaW.PrintWords Go.Proofs.YthfanjdbemoaaaaW.PrintLast Go.Proofs.YthfanjdbemoaaaaW.PrintMore
attribute [local go_sem] max2_int min2_int max_two min_two max_three min_three max_four min_four   -- for this text's walks alone
set_option linter.unusedVariables false
set_option linter.unusedSimpArgs false

/-! ### laws_f6big: function 4 -/
def laws_f6big.f (l0 : List Int) : Option (Bool) := some (decide ((l0.length : Int) > 4096))
set_option maxHeartbeats 8000000 in
set_option maxRecDepth 100000 in
theorem laws_f6big.calls (A0 : Option Addr) (c0 : Nat) (l0 : List Int) (r : Bool) (w : World) (hr0 : Kd.C (Kd.int .u8) w A0 l0.length l0) (hc0 : l0.length ≤ c0) (h : laws_f6big.f l0 = some r) :
    Calls Try.prog 4 #[.slice A0 l0.length c0] w fun e w' => e = .returned (.bool r) ∧ Drawn0 w w' := by
 have HR0 := Aside0.mk hr0
 have HC0 := Aside0.mk hc0
 clear hr0 hc0
 have H : (some (decide ((l0.length : Int) > 4096))) = some r := h
 clear h
 obtain rfl := Option.some.inj H
 go_enter Try.func4, Try.ntmps4
 go_wp2
 go_ret
 exact ⟨zx, by repeat (first | exact Drawn0.refl _ | apply Drawn0.step)⟩

/-- A state of type 83 at block g of W; what its slices lead to came in by w0. -/
def IsS83 (w0 W : World) (g : Nat) (f0 : List Int) (f1 : Int) (f2 : Int) : Prop := ∃ A0 c0, W.heap[g]? = some (.cells #[.slice A0 f0.length c0, .int .i64 f1, .int .u64 f2] 83 (0, 0)) ∧ w0.heap.size ≤ g ∧ Kd.C (Kd.int .u8) w0 A0 f0.length f0
theorem IsS83.grown {w0 W : World} {g : Nat} {f0 : List Int} {f1 : Int} {f2 : Int} {W1 : World} {row : Option Nat} (h : IsS83 w0 W g f0 f1 f2) (hw : W.grownBy W1 row) (hne : some g ≠ row) : IsS83 w0 W1 g f0 f1 f2 := by
  obtain ⟨A0, c0, hb, hg, hr0⟩ := h
  exact ⟨A0, c0, blk_grown hb hw hne, hg, hr0⟩
theorem IsS83.own_neN {w0 W : World} {g : Nat} {f0 : List Int} {f1 : Int} {f2 : Int} {α : Type} {d : Kd α} {e : Nat} {base : Nat} {ok : Nat → Prop} {v : Value} {xs : List α} (h : IsS83 w0 W g f0 f1 f2) (ho : Kd.N d e W base ok v xs) (ht : e ≠ 83) : some g ≠ v.ownBlock := by
  obtain ⟨A0, c0, hb, hg, hr0⟩ := h
  exact Kd.N_ne ho hb ht
theorem IsS83.fresh {w0 W : World} {g : Nat} {f0 : List Int} {f1 : Int} {f2 : Int} (h : IsS83 w0 W g f0 f1 f2) : ∀ k, W.heap.size ≤ k → k ≠ g := by
  obtain ⟨A0, c0, hb, hg, hr0⟩ := h
  exact Kd.freshB hb
theorem IsS83.kept {w0 W : World} {g : Nat} {f0 : List Int} {f1 : Int} {f2 : Int} {W1 : World} {S : Nat → Prop} (h : IsS83 w0 W g f0 f1 f2) (hk : Kept W W1 S) (hne : ¬ S g) : IsS83 w0 W1 g f0 f1 f2 := by
  obtain ⟨A0, c0, hb, hg, hr0⟩ := h
  exact ⟨A0, c0, blk_kept hb hk hne, hg, hr0⟩
theorem IsS83.below {w0 W : World} {g : Nat} {f0 : List Int} {f1 : Int} {f2 : Int} {W1 : World} (h : IsS83 w0 W g f0 f1 f2) (hw : Below W.heap.size W W1) : IsS83 w0 W1 g f0 f1 f2 := h.grown (grown_of_below hw none) (by simp)
theorem IsS83.alloc {w0 W : World} {g : Nat} {f0 : List Int} {f1 : Int} {f2 : Int} (h : IsS83 w0 W g f0 f1 f2) (o : Obj) : IsS83 w0 (W.alloc o) g f0 f1 f2 := h.below (below_alloc (Below.refl _ _) o)
theorem IsS83.drewN {w0 W : World} {g : Nat} {f0 : List Int} {f1 : Int} {f2 : Int} (h : IsS83 w0 W g f0 f1 f2) (m : Nat) : IsS83 w0 (W.drewN m) g f0 f1 f2 := h
theorem IsS83.drew {w0 W : World} {g : Nat} {f0 : List Int} {f1 : Int} {f2 : Int} (h : IsS83 w0 W g f0 f1 f2) : IsS83 w0 W.drew g f0 f1 f2 := h
theorem IsS83.at_ {w0 W : World} {g : Nat} {f0 : List Int} {f1 : Int} {f2 : Int} {w' : World} {m : Nat} (hq : W.drewN m = w') (h : IsS83 w0 W g f0 f1 f2) : IsS83 w0 w' g f0 f1 f2 := by subst hq; exact IsS83.drewN h m
theorem IsS83.apart {w0 W : World} {g : Nat} {f0 : List Int} {f1 : Int} {f2 : Int} {α : Type} {d : Kd α} {e : Nat} {base : Nat} {ok : Nat → Prop} {v : Value} {xs : List α} (h : IsS83 w0 W g f0 f1 f2) (ho : d.R e W base ok v xs) (ht : ∀ q, q ∈ e :: d.E → q ≠ 83) : d.R e W base (fun k => ok k ∧ k ≠ g) v xs := by
  obtain ⟨A0, c0, hb, hg, hr0⟩ := h
  exact Kd.R_types ho hb ht
theorem IsS83.own_ne {w0 W : World} {g : Nat} {f0 : List Int} {f1 : Int} {f2 : Int} {α : Type} {d : Kd α} {e : Nat} {base : Nat} {ok : Nat → Prop} {v : Value} {xs : List α} (h : IsS83 w0 W g f0 f1 f2) (ho : d.R e W base ok v xs) (ht : e ≠ 83) : some g ≠ v.ownBlock := by
  obtain ⟨A0, c0, hb, hg, hr0⟩ := h
  exact Kd.R_ne ho hb ht
theorem IsS83.apartQ {w0 W : World} {g : Nat} {f0 : List Int} {f1 : Int} {f2 : Int} {α : Type} {d : Kd α} {e : Nat} {base : Nat} {ok : Nat → Prop} {v : Value} {xs : List α} (h : IsS83 w0 W g f0 f1 f2) (ho : d.Q e W base ok v xs) (ht : ∀ q, q ∈ e :: d.E → q ≠ 83) : d.Q e W base (fun k => ok k ∧ k ≠ g) v xs := by
  obtain ⟨A0, c0, hb, hg, hr0⟩ := h
  exact Kd.Q_types ho hb ht
theorem IsS83.own_neQ {w0 W : World} {g : Nat} {f0 : List Int} {f1 : Int} {f2 : Int} {α : Type} {d : Kd α} {e : Nat} {base : Nat} {ok : Nat → Prop} {v : Value} {xs : List α} (h : IsS83 w0 W g f0 f1 f2) (ho : d.Q e W base ok v xs) (ht : e ≠ 83) : some g ≠ v.ownBlock := by
  obtain ⟨A0, c0, hb, hg, hr0⟩ := h
  exact Kd.Q_ne ho hb ht
theorem IsS83.apartS {w0 W : World} {g : Nat} {f0 : List Int} {f1 : Int} {f2 : Int} {α : Type} {d : Kd α} {e : Nat} {base : Nat} {ok : Nat → Prop} {v : Value} {xs : List α} (h : IsS83 w0 W g f0 f1 f2) (ho : d.S e W base ok v xs) (ht : ∀ q, q ∈ e :: d.E → q ≠ 83) : d.S e W base (fun k => ok k ∧ k ≠ g) v xs := by
  obtain ⟨A0, c0, hb, hg, hr0⟩ := h
  exact Kd.S_types ho hb ht
theorem IsS83.own_neS {w0 W : World} {g : Nat} {f0 : List Int} {f1 : Int} {f2 : Int} {α : Type} {d : Kd α} {e : Nat} {base : Nat} {ok : Nat → Prop} {v : Value} {xs : List α} (h : IsS83 w0 W g f0 f1 f2) (ho : d.S e W base ok v xs) (ht : e ≠ 83) : some g ≠ v.ownBlock := by
  obtain ⟨A0, c0, hb, hg, hr0⟩ := h
  exact Kd.S_ne ho hb ht
theorem IsS83.lt {w0 W : World} {g : Nat} {f0 : List Int} {f1 : Int} {f2 : Int} (h : IsS83 w0 W g f0 f1 f2) : g < W.heap.size := by
  obtain ⟨A0, c0, hb, hg, hr0⟩ := h
  exact blk_lt hb
theorem IsS83.ge {w0 W : World} {g : Nat} {f0 : List Int} {f1 : Int} {f2 : Int} (h : IsS83 w0 W g f0 f1 f2) : w0.heap.size ≤ g := by
  obtain ⟨A0, c0, hb, hg, hr0⟩ := h
  exact hg
theorem IsS83.ne_blk {w0 W : World} {g : Nat} {f0 : List Int} {f1 : Int} {f2 : Int} {a : Nat} {cs : Array Value} {t : TypeId} {fr : Nat × Nat} (h : IsS83 w0 W g f0 f1 f2) (hb2 : W.heap[a]? = some (.cells cs t fr)) (ht : t ≠ 83) : g ≠ a := by
  obtain ⟨A0, c0, hb, hg, hr0⟩ := h
  rintro rfl
  rw [hb] at hb2
  injection hb2 with hb2
  injection hb2 with _ ht2
  exact ht ht2.symm
theorem IsS83.far {w0 W : World} {g : Nat} {f0 : List Int} {f1 : Int} {f2 : Int} {p : Addr} (h : IsS83 w0 W g f0 f1 f2) (hne : g ≠ p.block) (u : Value) : IsS83 w0 (W.setCell p u) g f0 f1 f2 := by
  obtain ⟨A0, c0, hb, hg, hr0⟩ := h
  exact ⟨A0, c0, blk_far hb hne u, hg, hr0⟩
theorem cellS83_0 {W : World} {g : Nat} {A0 : Option Addr} {c0 : Nat} {f0 : List Int} {f1 : Int} {f2 : Int} (h : W.heap[g]? = some (.cells #[.slice A0 f0.length c0, .int .i64 f1, .int .u64 f2] 83 (0, 0))) : W.cell? ⟨g, 0, none⟩ = some (.slice A0 f0.length c0) := (blk_cell h 0).trans rfl
theorem cellS83_1 {W : World} {g : Nat} {A0 : Option Addr} {c0 : Nat} {f0 : List Int} {f1 : Int} {f2 : Int} (h : W.heap[g]? = some (.cells #[.slice A0 f0.length c0, .int .i64 f1, .int .u64 f2] 83 (0, 0))) : W.cell? ⟨g, 1, none⟩ = some (.int .i64 f1) := (blk_cell h 1).trans rfl
theorem IsS83.set_1 {w0 W : World} {g : Nat} {f0 : List Int} {f1 : Int} {f2 : Int} (h : IsS83 w0 W g f0 f1 f2) (x : Int) : IsS83 w0 (W.setCell ⟨g, 1, none⟩ (.int .i64 x)) g f0 x f2 := by
  obtain ⟨A0, c0, hb, hg, hr0⟩ := h
  exact ⟨A0, c0, by simpa using blk_set hb 1 (.int .i64 x), hg, hr0⟩
theorem cellS83_2 {W : World} {g : Nat} {A0 : Option Addr} {c0 : Nat} {f0 : List Int} {f1 : Int} {f2 : Int} (h : W.heap[g]? = some (.cells #[.slice A0 f0.length c0, .int .i64 f1, .int .u64 f2] 83 (0, 0))) : W.cell? ⟨g, 2, none⟩ = some (.int .u64 f2) := (blk_cell h 2).trans rfl
theorem IsS83.set_2 {w0 W : World} {g : Nat} {f0 : List Int} {f1 : Int} {f2 : Int} (h : IsS83 w0 W g f0 f1 f2) (x : Int) : IsS83 w0 (W.setCell ⟨g, 2, none⟩ (.int .u64 x)) g f0 f1 x := by
  obtain ⟨A0, c0, hb, hg, hr0⟩ := h
  exact ⟨A0, c0, by simpa using blk_set hb 2 (.int .u64 x), hg, hr0⟩
theorem IsS83.new (w0 W : World) (A0 : Option Addr) (c0 : Nat) (f0 : List Int) (f1 : Int) (f2 : Int) (hB : Below w0.heap.size w0 W) (hr0 : Kd.C (Kd.int .u8) w0 A0 f0.length f0) : IsS83 w0 (W.alloc (.cells #[.slice A0 f0.length c0, .int .i64 f1, .int .u64 f2] 83)) W.heap.size f0 f1 f2 := ⟨A0, c0, by simpa using heap_alloc_new W _, hB.size, hr0⟩

/-! ### spec_l00From: function 23 -/
def spec_l00From.f (l0 : List Int) : Option (List Int × Int × Int) := some (l0, 0, 0)
set_option maxHeartbeats 8000000 in
set_option maxRecDepth 100000 in
theorem spec_l00From.calls (A0 : Option Addr) (c0 : Nat) (l0 : List Int) (r1 : List Int) (r2 : Int) (r3 : Int) (w0 w : World) (hB : Below w0.heap.size w0 w) (hr0 : Kd.C (Kd.int .u8) w0 A0 l0.length l0) (hc0 : l0.length ≤ c0) (h : spec_l00From.f l0 = some (r1, r2, r3)) :
    Calls Try.prog 23 #[.slice A0 l0.length c0] w fun e w' => ∃ g_ : Nat, e = .returned (.pointer (some ⟨g_, 0, none⟩)) ∧ IsS83 w0 w' g_ r1 r2 r3 ∧ Below w0.heap.size w0 w' ∧ Below w.heap.size w w' := by
 have hu83 := Try.underlying83
 have HR0 := Aside0.mk hr0
 have HC0 := Aside0.mk hc0
 clear hr0 hc0
 have HBW := Aside0.mk (Below.refl w.heap.size w)
 have HW0 := Aside0.mk hB.size
 have HB := Aside0.mk hB
 clear hB
 have H : (some (l0, 0, 0)) = some (r1, r2, r3) := h
 clear h
 simp only [Option.some.injEq, Prod.mk.injEq] at H
 obtain ⟨rfl, rfl, rfl⟩ := H
 go_enter Try.func23, Try.ntmps23
 go_wp2_with (first | ((with_reducible refine gate_dst (N := 5) rfl ?_); refine box_event ?hg (N := 5) ?hd (cs := #[.slice A0 l0.length c0, .int .i64 0, .int .u64 0]) (t := 83) ?hr ?_; (case hd => rfl); (case hg => rfl); (case hr => first | (go_simp; done) | (go_simp; rfl)); intro gb101 hg w2 hbox hb; refine up5 (below_step HBW.out hb) (below_step (zb HB.out) hb) (hbox) ((by rw [hg]; exact (below_size (zb HBW.out)) : w.heap.size ≤ gb101)) ((Nat.le_trans HW0.out (by rw [hg]; exact (below_size (zb HBW.out)) : w.heap.size ≤ gb101) : w0.heap.size ≤ gb101)) ?_; clear HBW HB; intro HBW HB BK101 GW101 GE101; clear hb hbox hg))
 go_ret
 exact ⟨_, rfl, (show IsS83 w0 _ gb101 l0 0 0 from ⟨_, _, by (with_reducible repeat (first | refine blk_drewN ?_ _ | refine blk_drew ?_ | refine blk_alloc ?_ _)); exact BK101.out, GE101.out, HR0.out⟩), zb1 HB.out GE101.out, zb1 HBW.out GW101.out⟩

/-! ### spec_l00Src_next: function 53 -/
def spec_l00Src_next.f (s0_0 : List Int) (s0_1 : Int) (s0_2 : Int) : Option (Int × Int × Int) := if s0_1 < (s0_0.length : Int) then (if 0 ≤ s0_1 then (if (wrap64 (s0_1 + 1)) ≤ (s0_0.length : Int) then (some (wrap64 (rd s0_0 s0_1), wrap64 (s0_1 + 1), IntKind.u64.wrap ((IntKind.u64.wrap ((IntKind.u64.wrap (s0_2 * 6364136223846793005)) + (IntKind.u64.wrap (wrap64 (rd s0_0 s0_1))))) + 1442695040888963407))) else (some (wrap64 (Go.bits .and .u64 ((IntKind.u64.wrap ((IntKind.u64.wrap ((IntKind.u64.wrap (s0_2 * 6364136223846793005)) + (IntKind.u64.wrap (wrap64 (rd s0_0 s0_1))))) + 1442695040888963407)) / 1099511627776) 255), wrap64 (s0_1 + 1), IntKind.u64.wrap ((IntKind.u64.wrap ((IntKind.u64.wrap (s0_2 * 6364136223846793005)) + (IntKind.u64.wrap (wrap64 (rd s0_0 s0_1))))) + 1442695040888963407)))) else (none)) else (if (wrap64 (s0_1 + 1)) ≤ (s0_0.length : Int) then (some (0, wrap64 (s0_1 + 1), IntKind.u64.wrap ((IntKind.u64.wrap (IntKind.u64.wrap (s0_2 * 6364136223846793005))) + 1442695040888963407))) else (some (wrap64 (Go.bits .and .u64 ((IntKind.u64.wrap ((IntKind.u64.wrap (IntKind.u64.wrap (s0_2 * 6364136223846793005))) + 1442695040888963407)) / 1099511627776) 255), wrap64 (s0_1 + 1), IntKind.u64.wrap ((IntKind.u64.wrap (IntKind.u64.wrap (s0_2 * 6364136223846793005))) + 1442695040888963407))))
set_option maxHeartbeats 8000000 in
set_option maxRecDepth 100000 in
theorem spec_l00Src_next.calls (g : Nat) (s0_0 : List Int) (s0_1 : Int) (s0_2 : Int) (r1 : Int) (r2 : Int) (r3 : Int) (w0 w : World) (hI : IsS83 w0 w g s0_0 s0_1 s0_2) (hB : Below w0.heap.size w0 w) (h : spec_l00Src_next.f s0_0 s0_1 s0_2 = some (r1, r2, r3)) :
    Calls Try.prog 53 #[.pointer (some ⟨g, 0, none⟩)] w fun e w' => e = .returned (.int .i64 r1) ∧ IsS83 w0 w' g s0_0 r2 r3 ∧ Below w0.heap.size w0 w' ∧ KeepBut w w' g none := by
 have HI0 := Aside0.mk hI
 have HK := Aside0.mk (KeepBut.refl w g none)
 have HL := Aside0.mk hB.size
 clear hI
 have HW0 := Aside0.mk hB.size
 have HB := Aside0.mk hB
 clear hB
 have H : (if s0_1 < (s0_0.length : Int) then (if 0 ≤ s0_1 then (if (wrap64 (s0_1 + 1)) ≤ (s0_0.length : Int) then (some (wrap64 (rd s0_0 s0_1), wrap64 (s0_1 + 1), IntKind.u64.wrap ((IntKind.u64.wrap ((IntKind.u64.wrap (s0_2 * 6364136223846793005)) + (IntKind.u64.wrap (wrap64 (rd s0_0 s0_1))))) + 1442695040888963407))) else (some (wrap64 (Go.bits .and .u64 ((IntKind.u64.wrap ((IntKind.u64.wrap ((IntKind.u64.wrap (s0_2 * 6364136223846793005)) + (IntKind.u64.wrap (wrap64 (rd s0_0 s0_1))))) + 1442695040888963407)) / 1099511627776) 255), wrap64 (s0_1 + 1), IntKind.u64.wrap ((IntKind.u64.wrap ((IntKind.u64.wrap (s0_2 * 6364136223846793005)) + (IntKind.u64.wrap (wrap64 (rd s0_0 s0_1))))) + 1442695040888963407)))) else (none)) else (if (wrap64 (s0_1 + 1)) ≤ (s0_0.length : Int) then (some (0, wrap64 (s0_1 + 1), IntKind.u64.wrap ((IntKind.u64.wrap (IntKind.u64.wrap (s0_2 * 6364136223846793005))) + 1442695040888963407))) else (some (wrap64 (Go.bits .and .u64 ((IntKind.u64.wrap ((IntKind.u64.wrap (IntKind.u64.wrap (s0_2 * 6364136223846793005))) + 1442695040888963407)) / 1099511627776) 255), wrap64 (s0_1 + 1), IntKind.u64.wrap ((IntKind.u64.wrap (IntKind.u64.wrap (s0_2 * 6364136223846793005))) + 1442695040888963407))))) = some (r1, r2, r3) := h
 clear h
 by_cases c2 : s0_1 < (s0_0.length : Int)
 rotate_left
 · rw [if_neg c2] at H
   have c2b0 : decide (s0_1 < (s0_0.length : Int)) = false := decide_eq_false c2
   clear c2
   by_cases c7 : (wrap64 (s0_1 + 1)) ≤ (s0_0.length : Int)
   · rw [if_pos c7] at H
     have c7b0 : decide ((wrap64 (s0_1 + 1)) ≤ (s0_0.length : Int)) = true := decide_eq_true c7
     clear c7
     simp only [Option.some.injEq, Prod.mk.injEq] at H
     obtain ⟨rfl, rfl, rfl⟩ := H
     obtain ⟨ASz8_0, cSz8_0, HGz8, hgz8, HSz8_0⟩ := HI0.out
     have hcz8_0 := cellS83_0 HGz8
     have hcz8_1 := cellS83_1 HGz8
     have hcz8_2 := cellS83_2 HGz8
     have hfz8_1 := blk_frozen HGz8 1
     have hfz8_2 := blk_frozen HGz8 2
     clear HGz8 hgz8
     go_enter Try.func53, Try.ntmps53
     go_wp2
     repeat (go_quiet (fail); try go_wp2)
     go_ret
     exact ⟨zs, by repeat (first | (with_reducible first | exact HI0.out | apply IsS83.alloc | apply IsS83.drewN | apply IsS83.drew | apply IsS83.set_1 | apply IsS83.set_2) | exact HI0.out), by repeat (first | (with_reducible first | exact HB.out | apply below_alloc | apply pw_below_drewN | apply below_drew1 | refine below_set ?_ (IsS83.ge HI0.out)) | exact HB.out), by repeat (first | (with_reducible first | exact HK.out | apply KeepBut.set_ | apply keep_drewN | apply keep_drew | apply keep_alloc) | exact HK.out)⟩
   rw [if_neg c7] at H
   have c7b0 : decide ((wrap64 (s0_1 + 1)) ≤ (s0_0.length : Int)) = false := decide_eq_false c7
   clear c7
   simp only [Option.some.injEq, Prod.mk.injEq] at H
   obtain ⟨rfl, rfl, rfl⟩ := H
   obtain ⟨ASz9_0, cSz9_0, HGz9, hgz9, HSz9_0⟩ := HI0.out
   have hcz9_0 := cellS83_0 HGz9
   have hcz9_1 := cellS83_1 HGz9
   have hcz9_2 := cellS83_2 HGz9
   have hfz9_1 := blk_frozen HGz9 1
   have hfz9_2 := blk_frozen HGz9 2
   clear HGz9 hgz9
   go_enter Try.func53, Try.ntmps53
   go_wp2
   repeat (go_quiet (fail); try go_wp2)
   go_ret
   exact ⟨zs, by repeat (first | (with_reducible first | exact HI0.out | apply IsS83.alloc | apply IsS83.drewN | apply IsS83.drew | apply IsS83.set_1 | apply IsS83.set_2) | exact HI0.out), by repeat (first | (with_reducible first | exact HB.out | apply below_alloc | apply pw_below_drewN | apply below_drew1 | refine below_set ?_ (IsS83.ge HI0.out)) | exact HB.out), by repeat (first | (with_reducible first | exact HK.out | apply KeepBut.set_ | apply keep_drewN | apply keep_drew | apply keep_alloc) | exact HK.out)⟩
 rw [if_pos c2] at H
 have c2b0 : decide (s0_1 < (s0_0.length : Int)) = true := decide_eq_true c2
 clear c2
 by_cases c3 : 0 ≤ s0_1
 rotate_left
 · rw [if_neg c3] at H
   exact absurd H (by simp)
 rw [if_pos c3] at H
 have c3b0 : decide (0 ≤ s0_1) = true := decide_eq_true c3
 clear c3
 by_cases c4 : (wrap64 (s0_1 + 1)) ≤ (s0_0.length : Int)
 · rw [if_pos c4] at H
   have c4b0 : decide ((wrap64 (s0_1 + 1)) ≤ (s0_0.length : Int)) = true := decide_eq_true c4
   clear c4
   simp only [Option.some.injEq, Prod.mk.injEq] at H
   obtain ⟨rfl, rfl, rfl⟩ := H
   obtain ⟨ASz5_0, cSz5_0, HGz5, hgz5, HSz5_0⟩ := HI0.out
   have hcz5_0 := cellS83_0 HGz5
   have hcz5_1 := cellS83_1 HGz5
   have hcz5_2 := cellS83_2 HGz5
   have hfz5_1 := blk_frozen HGz5 1
   have hfz5_2 := blk_frozen HGz5 2
   clear HGz5 hgz5
   have p102 : 0 ≤ (s0_1 : Int) := zd
   have q102 : s0_1 < (s0_0.length : Int) := zd
   obtain ⟨ad102, e102, hx102_0⟩ := Kd.at_int HSz5_0 s0_1 p102 q102
   cases e102
   replace hx102_0 := pw_cell_below HB.out hx102_0
   replace p102 := eq_true p102
   replace q102 := eq_true q102
   go_enter Try.func53, Try.ntmps53
   go_wp2
   repeat (go_quiet (fail); try go_wp2)
   go_ret
   exact ⟨zs, by repeat (first | (with_reducible first | exact HI0.out | apply IsS83.alloc | apply IsS83.drewN | apply IsS83.drew | apply IsS83.set_1 | apply IsS83.set_2) | exact HI0.out), by repeat (first | (with_reducible first | exact HB.out | apply below_alloc | apply pw_below_drewN | apply below_drew1 | refine below_set ?_ (IsS83.ge HI0.out)) | exact HB.out), by repeat (first | (with_reducible first | exact HK.out | apply KeepBut.set_ | apply keep_drewN | apply keep_drew | apply keep_alloc) | exact HK.out)⟩
 rw [if_neg c4] at H
 have c4b0 : decide ((wrap64 (s0_1 + 1)) ≤ (s0_0.length : Int)) = false := decide_eq_false c4
 clear c4
 simp only [Option.some.injEq, Prod.mk.injEq] at H
 obtain ⟨rfl, rfl, rfl⟩ := H
 obtain ⟨ASz6_0, cSz6_0, HGz6, hgz6, HSz6_0⟩ := HI0.out
 have hcz6_0 := cellS83_0 HGz6
 have hcz6_1 := cellS83_1 HGz6
 have hcz6_2 := cellS83_2 HGz6
 have hfz6_1 := blk_frozen HGz6 1
 have hfz6_2 := blk_frozen HGz6 2
 clear HGz6 hgz6
 have p102 : 0 ≤ (s0_1 : Int) := zd
 have q102 : s0_1 < (s0_0.length : Int) := zd
 obtain ⟨ad102, e102, hx102_0⟩ := Kd.at_int HSz6_0 s0_1 p102 q102
 cases e102
 replace hx102_0 := pw_cell_below HB.out hx102_0
 replace p102 := eq_true p102
 replace q102 := eq_true q102
 go_enter Try.func53, Try.ntmps53
 go_wp2
 repeat (go_quiet (fail); try go_wp2)
 go_ret
 exact ⟨zs, by repeat (first | (with_reducible first | exact HI0.out | apply IsS83.alloc | apply IsS83.drewN | apply IsS83.drew | apply IsS83.set_1 | apply IsS83.set_2) | exact HI0.out), by repeat (first | (with_reducible first | exact HB.out | apply below_alloc | apply pw_below_drewN | apply below_drew1 | refine below_set ?_ (IsS83.ge HI0.out)) | exact HB.out), by repeat (first | (with_reducible first | exact HK.out | apply KeepBut.set_ | apply keep_drewN | apply keep_drew | apply keep_alloc) | exact HK.out)⟩

/-! ### spec_l00Src_pick: function 24 -/
def spec_l00Src_pick.f (s0_0 : List Int) (s0_1 : Int) (s0_2 : Int) (a1 : Int) : Option (Int × Int × Int) := if a1 ≤ 1 then (some (0, s0_1, s0_2)) else ((spec_l00Src_next.f s0_0 s0_1 s0_2).bind fun bt103 => (if a1 > 200 then ((spec_l00Src_next.f s0_0 bt103.2.1 bt103.2.2).bind fun bt106 => (if a1 = 0 then (none) else (some (Int.tmod (wrap64 ((wrap64 (bt103.1 * 256)) + bt106.1)) a1, bt106.2.1, bt106.2.2)))) else (if a1 = 0 then (none) else (some (Int.tmod bt103.1 a1, bt103.2.1, bt103.2.2)))))
set_option maxHeartbeats 8000000 in
set_option maxRecDepth 100000 in
theorem spec_l00Src_pick.calls (g : Nat) (s0_0 : List Int) (s0_1 : Int) (s0_2 : Int) (a1 : Int) (r1 : Int) (r2 : Int) (r3 : Int) (w0 w : World) (hI : IsS83 w0 w g s0_0 s0_1 s0_2) (hB : Below w0.heap.size w0 w) (h : spec_l00Src_pick.f s0_0 s0_1 s0_2 a1 = some (r1, r2, r3)) :
    Calls Try.prog 24 #[.pointer (some ⟨g, 0, none⟩), .int .i64 a1] w fun e w' => e = .returned (.int .i64 r1) ∧ IsS83 w0 w' g s0_0 r2 r3 ∧ Below w0.heap.size w0 w' ∧ KeepBut w w' g none := by
 have HI0 := Aside0.mk hI
 have HK := Aside0.mk (KeepBut.refl w g none)
 have HL := Aside0.mk hB.size
 clear hI
 have HW0 := Aside0.mk hB.size
 have HB := Aside0.mk hB
 clear hB
 have H : (if a1 ≤ 1 then (some (0, s0_1, s0_2)) else ((spec_l00Src_next.f s0_0 s0_1 s0_2).bind fun bt103 => (if a1 > 200 then ((spec_l00Src_next.f s0_0 bt103.2.1 bt103.2.2).bind fun bt106 => (if a1 = 0 then (none) else (some (Int.tmod (wrap64 ((wrap64 (bt103.1 * 256)) + bt106.1)) a1, bt106.2.1, bt106.2.2)))) else (if a1 = 0 then (none) else (some (Int.tmod bt103.1 a1, bt103.2.1, bt103.2.2)))))) = some (r1, r2, r3) := h
 clear h
 by_cases c3 : a1 ≤ 1
 · rw [if_pos c3] at H
   have c3b0 : decide (a1 ≤ 1) = true := decide_eq_true c3
   clear c3
   simp only [Option.some.injEq, Prod.mk.injEq] at H
   obtain ⟨rfl, rfl, rfl⟩ := H
   go_enter Try.func24, Try.ntmps24
   go_wp2
   go_ret
   exact ⟨zs, by repeat (first | (with_reducible first | exact HI0.out | apply IsS83.alloc | apply IsS83.drewN | apply IsS83.drew | apply IsS83.set_1 | apply IsS83.set_2) | exact HI0.out), by repeat (first | (with_reducible first | exact HB.out | apply below_alloc | apply pw_below_drewN | apply below_drew1 | refine below_set ?_ (IsS83.ge HI0.out)) | exact HB.out), by repeat (first | (with_reducible first | exact HK.out | apply KeepBut.set_ | apply keep_drewN | apply keep_drew | apply keep_alloc) | exact HK.out)⟩
 rw [if_neg c3] at H
 have c3b0 : decide (a1 ≤ 1) = false := decide_eq_false c3
 clear c3
 replace H := Option.bind_eq_some_iff.mp H
 obtain ⟨⟨t103, t104, t105⟩, A40, H⟩ := H
 replace H : (if a1 > 200 then ((spec_l00Src_next.f s0_0 t104 t105).bind fun bt106 => (if a1 = 0 then (none) else (some (Int.tmod (wrap64 ((wrap64 (t103 * 256)) + bt106.1)) a1, bt106.2.1, bt106.2.2)))) else (if a1 = 0 then (none) else (some (Int.tmod t103 a1, t104, t105)))) = some (r1, r2, r3) := H
 have A4 := Aside0.mk A40
 clear A40
 by_cases c5 : a1 > 200
 rotate_left
 · rw [if_neg c5] at H
   have c5b0 : decide (200 < a1) = false := decide_eq_false c5
   clear c5
   by_cases c10 : a1 = 0
   · rw [if_pos c10] at H
     exact absurd H (by simp)
   rw [if_neg c10] at H
   have c10b0 : (a1 == 0) = false := beq_eq_false_iff_ne.mpr c10
   have c10b1 : (a1 != 0) = true := bne_iff_ne.mpr c10
   simp only [Option.some.injEq, Prod.mk.injEq] at H
   obtain ⟨rfl, rfl, rfl⟩ := H
   go_enter Try.func24, Try.ntmps24
   go_wp2_with (first | ((with_reducible refine gate_callee (f := 53) rfl ?_); refine goesL_ (some 9) rfl rfl Try.func53 (by kernel_rfl) rfl #[.pointer (some ⟨g, 0, none⟩)] rfl zr ?_; (with_reducible refine (spec_l00Src_next.calls g s0_0 s0_1 s0_2 t103 t104 t105 w0 _ ?side1 ?side2 A4.out).mono ?_); (case side1 => repeat (first | (with_reducible first | exact HI0.out | apply IsS83.alloc | apply IsS83.drewN | apply IsS83.drew | apply IsS83.set_1 | apply IsS83.set_2) | exact HI0.out)); (case side2 => repeat (first | (with_reducible first | exact HB.out | apply below_alloc | apply pw_below_drewN | apply below_drew1 | refine below_set ?_ (IsS83.ge HI0.out)) | exact HB.out)); rintro e w11 ⟨rfl, hi, hb, hk⟩; refine ⟨_, rfl, ?_⟩; refine up3 (KeepBut.trans (by repeat (first | (with_reducible first | exact HK.out | apply KeepBut.set_ | apply keep_drewN | apply keep_drew | apply keep_alloc) | exact HK.out)) hk (.inl rfl)) (hb) (hi) ?_; clear HK HB HI0; intro HK HB HI0; (try clear hb); (try clear hb2); (try clear hk); (try clear hi)))
   go_ret
   exact ⟨zs, by repeat (first | (with_reducible first | exact HI0.out | apply IsS83.alloc | apply IsS83.drewN | apply IsS83.drew | apply IsS83.set_1 | apply IsS83.set_2) | exact HI0.out), by repeat (first | (with_reducible first | exact HB.out | apply below_alloc | apply pw_below_drewN | apply below_drew1 | refine below_set ?_ (IsS83.ge HI0.out)) | exact HB.out), by repeat (first | (with_reducible first | exact HK.out | apply KeepBut.set_ | apply keep_drewN | apply keep_drew | apply keep_alloc) | exact HK.out)⟩
 rw [if_pos c5] at H
 have c5b0 : decide (200 < a1) = true := decide_eq_true c5
 clear c5
 replace H := Option.bind_eq_some_iff.mp H
 obtain ⟨⟨t106, t107, t108⟩, A60, H⟩ := H
 replace H : (if a1 = 0 then (none) else (some (Int.tmod (wrap64 ((wrap64 (t103 * 256)) + t106)) a1, t107, t108))) = some (r1, r2, r3) := H
 have A6 := Aside0.mk A60
 clear A60
 by_cases c7 : a1 = 0
 · rw [if_pos c7] at H
   exact absurd H (by simp)
 rw [if_neg c7] at H
 have c7b0 : (a1 == 0) = false := beq_eq_false_iff_ne.mpr c7
 have c7b1 : (a1 != 0) = true := bne_iff_ne.mpr c7
 simp only [Option.some.injEq, Prod.mk.injEq] at H
 obtain ⟨rfl, rfl, rfl⟩ := H
 go_enter Try.func24, Try.ntmps24
 go_wp2_with (first | ((with_reducible refine gate_callee (f := 53) rfl ?_); refine goesL_ (some 9) rfl rfl Try.func53 (by kernel_rfl) rfl #[.pointer (some ⟨g, 0, none⟩)] rfl zr ?_; (with_reducible refine (spec_l00Src_next.calls g s0_0 s0_1 s0_2 t103 t104 t105 w0 _ ?side1 ?side2 A4.out).mono ?_); (case side1 => repeat (first | (with_reducible first | exact HI0.out | apply IsS83.alloc | apply IsS83.drewN | apply IsS83.drew | apply IsS83.set_1 | apply IsS83.set_2) | exact HI0.out)); (case side2 => repeat (first | (with_reducible first | exact HB.out | apply below_alloc | apply pw_below_drewN | apply below_drew1 | refine below_set ?_ (IsS83.ge HI0.out)) | exact HB.out)); rintro e w8 ⟨rfl, hi, hb, hk⟩; refine ⟨_, rfl, ?_⟩; refine up3 (KeepBut.trans (by repeat (first | (with_reducible first | exact HK.out | apply KeepBut.set_ | apply keep_drewN | apply keep_drew | apply keep_alloc) | exact HK.out)) hk (.inl rfl)) (hb) (hi) ?_; clear HK HB HI0; intro HK HB HI0; (try clear hb); (try clear hb2); (try clear hk); (try clear hi)) | ((with_reducible refine gate_callee (f := 53) rfl ?_); refine goesL_ (some 15) rfl rfl Try.func53 (by kernel_rfl) rfl #[.pointer (some ⟨g, 0, none⟩)] rfl zr ?_; (with_reducible refine (spec_l00Src_next.calls g s0_0 t104 t105 t106 t107 t108 w0 _ ?side1 ?side2 A6.out).mono ?_); (case side1 => repeat (first | (with_reducible first | exact HI0.out | apply IsS83.alloc | apply IsS83.drewN | apply IsS83.drew | apply IsS83.set_1 | apply IsS83.set_2) | exact HI0.out)); (case side2 => repeat (first | (with_reducible first | exact HB.out | apply below_alloc | apply pw_below_drewN | apply below_drew1 | refine below_set ?_ (IsS83.ge HI0.out)) | exact HB.out)); rintro e w9 ⟨rfl, hi, hb, hk⟩; refine ⟨_, rfl, ?_⟩; refine up3 (KeepBut.trans (by repeat (first | (with_reducible first | exact HK.out | apply KeepBut.set_ | apply keep_drewN | apply keep_drew | apply keep_alloc) | exact HK.out)) hk (.inl rfl)) (hb) (hi) ?_; clear HK HB HI0; intro HK HB HI0; (try clear hb); (try clear hb2); (try clear hk); (try clear hi)))
 go_ret
 exact ⟨zs, by repeat (first | (with_reducible first | exact HI0.out | apply IsS83.alloc | apply IsS83.drewN | apply IsS83.drew | apply IsS83.set_1 | apply IsS83.set_2) | exact HI0.out), by repeat (first | (with_reducible first | exact HB.out | apply below_alloc | apply pw_below_drewN | apply below_drew1 | refine below_set ?_ (IsS83.ge HI0.out)) | exact HB.out), by repeat (first | (with_reducible first | exact HK.out | apply KeepBut.set_ | apply keep_drewN | apply keep_drew | apply keep_alloc) | exact HK.out)⟩

/-! ### spec_l03Drawn: function 25 -/
def spec_l03Drawn.f (s0_0 : List Int) (s0_1 : Int) (s0_2 : Int) : Option (Int × Int × Int × Int × Int) := (spec_l00Src_pick.f s0_0 s0_1 s0_2 120).bind fun bt110 => ((spec_l00Src_pick.f s0_0 bt110.2.1 bt110.2.2 400).bind fun bt113 => ((spec_l00Src_pick.f s0_0 bt113.2.1 bt113.2.2 50).bind fun bt116 => (some (IntKind.i16.wrap (wrap64 (1 + bt110.1)), IntKind.i16.wrap (wrap64 (bt113.1 - 200)), IntKind.i16.wrap (wrap64 (1 + bt116.1)), bt116.2.1, bt116.2.2))))
set_option maxHeartbeats 8000000 in
set_option maxRecDepth 100000 in
theorem spec_l03Drawn.calls (g : Nat) (s0_0 : List Int) (s0_1 : Int) (s0_2 : Int) (r1 : Int) (r2 : Int) (r3 : Int) (r4 : Int) (r5 : Int) (w0 w : World) (hI : IsS83 w0 w g s0_0 s0_1 s0_2) (hB : Below w0.heap.size w0 w) (h : spec_l03Drawn.f s0_0 s0_1 s0_2 = some (r1, r2, r3, r4, r5)) :
    Calls Try.prog 25 #[.pointer (some ⟨g, 0, none⟩)] w fun e w' => e = .returned (.agg #[.int .i16 r1, .int .i16 r2, .int .i16 r3]) ∧ IsS83 w0 w' g s0_0 r4 r5 ∧ Below w0.heap.size w0 w' ∧ KeepBut w w' g none := by
 have hu33 := Try.underlying33
 have HI0 := Aside0.mk hI
 have HK := Aside0.mk (KeepBut.refl w g none)
 have HL := Aside0.mk hB.size
 clear hI
 have HW0 := Aside0.mk hB.size
 have HB := Aside0.mk hB
 clear hB
 have H : ((spec_l00Src_pick.f s0_0 s0_1 s0_2 120).bind fun bt110 => ((spec_l00Src_pick.f s0_0 bt110.2.1 bt110.2.2 400).bind fun bt113 => ((spec_l00Src_pick.f s0_0 bt113.2.1 bt113.2.2 50).bind fun bt116 => (some (IntKind.i16.wrap (wrap64 (1 + bt110.1)), IntKind.i16.wrap (wrap64 (bt113.1 - 200)), IntKind.i16.wrap (wrap64 (1 + bt116.1)), bt116.2.1, bt116.2.2))))) = some (r1, r2, r3, r4, r5) := h
 clear h
 replace H := Option.bind_eq_some_iff.mp H
 obtain ⟨⟨t110, t111, t112⟩, A20, H⟩ := H
 replace H : ((spec_l00Src_pick.f s0_0 t111 t112 400).bind fun bt113 => ((spec_l00Src_pick.f s0_0 bt113.2.1 bt113.2.2 50).bind fun bt116 => (some (IntKind.i16.wrap (wrap64 (1 + t110)), IntKind.i16.wrap (wrap64 (bt113.1 - 200)), IntKind.i16.wrap (wrap64 (1 + bt116.1)), bt116.2.1, bt116.2.2)))) = some (r1, r2, r3, r4, r5) := H
 have A2 := Aside0.mk A20
 clear A20
 replace H := Option.bind_eq_some_iff.mp H
 obtain ⟨⟨t113, t114, t115⟩, A30, H⟩ := H
 replace H : ((spec_l00Src_pick.f s0_0 t114 t115 50).bind fun bt116 => (some (IntKind.i16.wrap (wrap64 (1 + t110)), IntKind.i16.wrap (wrap64 (t113 - 200)), IntKind.i16.wrap (wrap64 (1 + bt116.1)), bt116.2.1, bt116.2.2))) = some (r1, r2, r3, r4, r5) := H
 have A3 := Aside0.mk A30
 clear A30
 replace H := Option.bind_eq_some_iff.mp H
 obtain ⟨⟨t116, t117, t118⟩, A40, H⟩ := H
 replace H : (some (IntKind.i16.wrap (wrap64 (1 + t110)), IntKind.i16.wrap (wrap64 (t113 - 200)), IntKind.i16.wrap (wrap64 (1 + t116)), t117, t118)) = some (r1, r2, r3, r4, r5) := H
 have A4 := Aside0.mk A40
 clear A40
 simp only [Option.some.injEq, Prod.mk.injEq] at H
 obtain ⟨rfl, rfl, rfl, rfl, rfl⟩ := H
 go_enter Try.func25, Try.ntmps25
 go_wp2_with (first | ((with_reducible refine gate_dst (N := 2) rfl ?_); refine box_event ?hg (N := 2) ?hd (cs := #[.int .i16 0, .int .i16 0, .int .i16 0]) (t := 33) ?hr ?_; (case hd => rfl); (case hg => rfl); (case hr => first | (go_simp; done) | (go_simp; rfl)); intro gb109 hg w5 hbox hb; refine up8 (IsS83.below (by repeat (first | (with_reducible first | exact HI0.out | apply IsS83.alloc | apply IsS83.drewN | apply IsS83.drew | apply IsS83.set_1 | apply IsS83.set_2) | exact HI0.out)) hb) (KeepBut.trans (by repeat (first | (with_reducible first | exact HK.out | apply KeepBut.set_ | apply keep_drewN | apply keep_drew | apply keep_alloc) | exact HK.out)) (KeepBut.of_below hb g none) (.inl rfl)) (below_step (by repeat (first | (with_reducible first | exact HB.out | apply below_alloc | apply pw_below_drewN | apply below_drew1 | refine below_set ?_ (IsS83.ge HI0.out)) | exact HB.out)) hb) (hbox) ((by rw [hg]; exact (keep_size (w := w) (g := g) (row := none) (by repeat (first | (with_reducible first | exact HK.out | apply KeepBut.set_ | apply keep_drewN | apply keep_drew | apply keep_alloc) | exact HK.out))) : w.heap.size ≤ gb109)) ((Nat.le_trans HW0.out (by rw [hg]; exact (keep_size (w := w) (g := g) (row := none) (by repeat (first | (with_reducible first | exact HK.out | apply KeepBut.set_ | apply keep_drewN | apply keep_drew | apply keep_alloc) | exact HK.out))) : w.heap.size ≤ gb109) : w0.heap.size ≤ gb109)) ((by rw [hg]; exact Nat.ne_of_lt (IsS83.lt (show IsS83 w0 _ g s0_0 s0_1 s0_2 from by repeat (first | (with_reducible first | exact HI0.out | apply IsS83.alloc | apply IsS83.drewN | apply IsS83.drew | apply IsS83.set_1 | apply IsS83.set_2) | exact HI0.out))) : g ≠ gb109)) ((by rw [hg]; exact Nat.ne_of_gt (IsS83.lt (show IsS83 w0 _ g s0_0 s0_1 s0_2 from by repeat (first | (with_reducible first | exact HI0.out | apply IsS83.alloc | apply IsS83.drewN | apply IsS83.drew | apply IsS83.set_1 | apply IsS83.set_2) | exact HI0.out))) : gb109 ≠ g)) ?_; clear HI0 HK HB; intro HI0 HK HB BK109 GW109 GE109 NB0_109 NB109_0; clear hb hbox hg) | ((with_reducible refine gate_callee (f := 24) rfl ?_); refine goesL_ (some 6) rfl rfl Try.func24 (by kernel_rfl) rfl #[.pointer (some ⟨g, 0, none⟩), .int .i64 120] rfl zr ?_; (with_reducible refine (spec_l00Src_pick.calls g s0_0 s0_1 s0_2 120 t110 t111 t112 w0 _ ?side1 ?side2 A2.out).mono ?_); (case side1 => repeat (first | (with_reducible first | exact HI0.out | apply IsS83.alloc | apply IsS83.drewN | apply IsS83.drew | apply IsS83.set_1 | apply IsS83.set_2 | refine IsS83.far ?_ NB0_109.out _) | exact HI0.out)); (case side2 => repeat (first | (with_reducible first | exact HB.out | apply below_alloc | apply pw_below_drewN | apply below_drew1 | refine below_set ?_ (IsS83.ge HI0.out) | refine below_set ?_ GE109.out) | exact HB.out)); rintro e w6 ⟨rfl, hi, hb, hk⟩; refine ⟨_, rfl, ?_⟩; refine up4 (KeepBut.blk hk (g' := gb109) (o := .cells #[.int .i16 0, .int .i16 0, .int .i16 0] 33 (0, 0)) (zq BK109.out) NB109_0.out (by simp)) (KeepBut.trans (by repeat (first | (with_reducible first | exact HK.out | apply KeepBut.set_ | apply keep_drewN | apply keep_drew | apply keep_alloc | refine keep_far ?_ GW109.out _) | exact HK.out)) hk (.inl rfl)) (hb) (hi) ?_; clear BK109 HK HB HI0; intro BK109 HK HB HI0; (try clear hb); (try clear hb2); (try clear hk); (try clear hi)) | ((with_reducible refine gate_callee (f := 24) rfl ?_); refine goesL_ (some 9) rfl rfl Try.func24 (by kernel_rfl) rfl #[.pointer (some ⟨g, 0, none⟩), .int .i64 400] rfl zr ?_; (with_reducible refine (spec_l00Src_pick.calls g s0_0 t111 t112 400 t113 t114 t115 w0 _ ?side1 ?side2 A3.out).mono ?_); (case side1 => repeat (first | (with_reducible first | exact HI0.out | apply IsS83.alloc | apply IsS83.drewN | apply IsS83.drew | apply IsS83.set_1 | apply IsS83.set_2 | refine IsS83.far ?_ NB0_109.out _) | exact HI0.out)); (case side2 => repeat (first | (with_reducible first | exact HB.out | apply below_alloc | apply pw_below_drewN | apply below_drew1 | refine below_set ?_ (IsS83.ge HI0.out) | refine below_set ?_ GE109.out) | exact HB.out)); rintro e w7 ⟨rfl, hi, hb, hk⟩; refine ⟨_, rfl, ?_⟩; refine up4 (KeepBut.blk hk (g' := gb109) (o := .cells #[.int .i16 0, .int .i16 0, .int .i16 0] 33 (0, 0)) (zq BK109.out) NB109_0.out (by simp)) (KeepBut.trans (by repeat (first | (with_reducible first | exact HK.out | apply KeepBut.set_ | apply keep_drewN | apply keep_drew | apply keep_alloc | refine keep_far ?_ GW109.out _) | exact HK.out)) hk (.inl rfl)) (hb) (hi) ?_; clear BK109 HK HB HI0; intro BK109 HK HB HI0; (try clear hb); (try clear hb2); (try clear hk); (try clear hi)) | ((with_reducible refine gate_callee (f := 24) rfl ?_); refine goesL_ (some 16) rfl rfl Try.func24 (by kernel_rfl) rfl #[.pointer (some ⟨g, 0, none⟩), .int .i64 50] rfl zr ?_; (with_reducible refine (spec_l00Src_pick.calls g s0_0 t114 t115 50 t116 t117 t118 w0 _ ?side1 ?side2 A4.out).mono ?_); (case side1 => repeat (first | (with_reducible first | exact HI0.out | apply IsS83.alloc | apply IsS83.drewN | apply IsS83.drew | apply IsS83.set_1 | apply IsS83.set_2 | refine IsS83.far ?_ NB0_109.out _) | exact HI0.out)); (case side2 => repeat (first | (with_reducible first | exact HB.out | apply below_alloc | apply pw_below_drewN | apply below_drew1 | refine below_set ?_ (IsS83.ge HI0.out) | refine below_set ?_ GE109.out) | exact HB.out)); rintro e w8 ⟨rfl, hi, hb, hk⟩; refine ⟨_, rfl, ?_⟩; refine up4 (KeepBut.blk hk (g' := gb109) (o := .cells #[.int .i16 0, .int .i16 0, .int .i16 0] 33 (0, 0)) (zq BK109.out) NB109_0.out (by simp)) (KeepBut.trans (by repeat (first | (with_reducible first | exact HK.out | apply KeepBut.set_ | apply keep_drewN | apply keep_drew | apply keep_alloc | refine keep_far ?_ GW109.out _) | exact HK.out)) hk (.inl rfl)) (hb) (hi) ?_; clear BK109 HK HB HI0; intro BK109 HK HB HI0; (try clear hb); (try clear hb2); (try clear hk); (try clear hi); have hnb9 := NB109_0.out; have hnc9 := NB0_109.out; have hcz10_0 : w8.cell? ⟨gb109, 0, none⟩ = some (.int .i16 0) := (blk_cell BK109.out 0).trans rfl; have hcz10_1 : w8.cell? ⟨gb109, 1, none⟩ = some (.int .i16 0) := (blk_cell BK109.out 1).trans rfl; have hcz10_2 : w8.cell? ⟨gb109, 2, none⟩ = some (.int .i16 0) := (blk_cell BK109.out 2).trans rfl; have hfz10_0 := blk_frozen BK109.out 0; have hfz10_1 := blk_frozen BK109.out 1; have hfz10_2 := blk_frozen BK109.out 2))
 refine bodyPost_ret (results_cell_row rfl _ _ gb109 33 #[.int .i16 (IntKind.i16.wrap (wrap64 (1 + t110))), .int .i16 (IntKind.i16.wrap (wrap64 (t113 - 200))), .int .i16 (IntKind.i16.wrap (wrap64 (1 + t116)))] (0, 0) _ rfl (by (with_reducible repeat (first | refine blk_drewN ?_ _ | refine blk_drew ?_ | refine blk_alloc ?_ _)); refine blk_put (cs := #[.int .i16 (IntKind.i16.wrap (wrap64 (1 + t110))), .int .i16 (IntKind.i16.wrap (wrap64 (t113 - 200))), .int .i16 0]) ?_ 2 _ rfl; (with_reducible repeat (first | refine blk_drewN ?_ _ | refine blk_drew ?_ | refine blk_alloc ?_ _)); refine blk_put (cs := #[.int .i16 (IntKind.i16.wrap (wrap64 (1 + t110))), .int .i16 0, .int .i16 0]) ?_ 1 _ rfl; (with_reducible repeat (first | refine blk_drewN ?_ _ | refine blk_drew ?_ | refine blk_alloc ?_ _)); refine blk_put (cs := #[.int .i16 0, .int .i16 0, .int .i16 0]) ?_ 0 _ rfl; (with_reducible repeat (first | refine blk_drewN ?_ _ | refine blk_drew ?_ | refine blk_alloc ?_ _)); exact BK109.out) Try.underlying33 rfl (by kernel_rfl)) rfl ?_
 exact ⟨zs, by repeat (first | (with_reducible first | exact HI0.out | apply IsS83.alloc | apply IsS83.drewN | apply IsS83.drew | apply IsS83.set_1 | apply IsS83.set_2 | refine IsS83.far ?_ NB0_109.out _) | exact HI0.out), by repeat (first | (with_reducible first | exact HB.out | apply below_alloc | apply pw_below_drewN | apply below_drew1 | refine below_set ?_ (IsS83.ge HI0.out) | refine below_set ?_ GE109.out) | exact HB.out), by repeat (first | (with_reducible first | exact HK.out | apply KeepBut.set_ | apply keep_drewN | apply keep_drew | apply keep_alloc | refine keep_far ?_ GW109.out _) | exact HK.out)⟩

/-! ### spec_P6Yarns: function 5 -/
def spec_P6Yarns.l0 : Nat → List (S33) → Int → List Int → Int → Int → Option ((List (S33)))
  | 0, _, _, _, _, _ => none
  | k + 1, x4, x5, x123000, x123001, x123002 => if x5 > 0 then ((spec_l03Drawn.f x123000 x123001 x123002).bind fun bt129 => (if x4.length < 23456248059221 then (spec_P6Yarns.l0 k (x4 ++ [(⟨bt129.1, bt129.2.1, bt129.2.2.1⟩ : S33)]) (wrap64 (x5 - 1)) x123000 bt129.2.2.2.1 bt129.2.2.2.2) else (none))) else (some x4)
def spec_P6Yarns.f (k : Nat) (l0 : List Int) : Option ((List (S33))) := (spec_l00From.f l0).bind fun bt119 => ((spec_l00Src_pick.f bt119.1 bt119.2.1 bt119.2.2 7).bind fun bt126 => (spec_P6Yarns.l0 k (([] : List (S33))) bt126.1 bt119.1 bt126.2.1 bt126.2.2))
theorem spec_P6Yarns.mono_l : ∀ k, (∀ y0 y1 y2 y3 y4, LeO (spec_P6Yarns.l0 k y0 y1 y2 y3 y4) (spec_P6Yarns.l0 (k + 1) y0 y1 y2 y3 y4))
  | 0 => fun _ _ _ _ _ r h => by simp [spec_P6Yarns.l0] at h
  | k + 1 => by
    have ih0 := spec_P6Yarns.mono_l k
    · intro y0 y1 y2 y3 y4
      unfold spec_P6Yarns.l0
      repeat' first
      | (with_reducible exact ih0 _ _ _ _ _)
      | (with_reducible exact LeO.refl _)
      | (with_reducible exact LeO.none _)
      | (with_reducible refine LeO.ite ?_ ?_)
      | (with_reducible refine LeO.bind ?_ (fun _ => ?_))
      | exact ih0 _ _ _ _ _
      | exact LeO.none _
      | refine LeO.ite ?_ ?_
      | refine LeO.bind ?_ (fun _ => ?_)
theorem spec_P6Yarns.mono : ∀ a0 k, LeO (spec_P6Yarns.f k a0) (spec_P6Yarns.f (k + 1) a0) := by
  intro a0 k
  have ih0 := spec_P6Yarns.mono_l k
  unfold spec_P6Yarns.f
  repeat' first
      | (with_reducible exact ih0 _ _ _ _ _)
      | (with_reducible exact LeO.refl _)
      | (with_reducible exact LeO.none _)
      | (with_reducible refine LeO.ite ?_ ?_)
      | (with_reducible refine LeO.bind ?_ (fun _ => ?_))
      | exact ih0 _ _ _ _ _
      | exact LeO.none _
      | refine LeO.ite ?_ ?_
      | refine LeO.bind ?_ (fun _ => ?_)
set_option maxHeartbeats 8000000 in
set_option maxRecDepth 100000 in
theorem spec_P6Yarns.calls (k : Nat) (A0 : Option Addr) (c0 : Nat) (l0 : List Int) (r : List (S33)) (w : World) (hr0 : Kd.C (Kd.int .u8) w A0 l0.length l0) (hc0 : l0.length ≤ c0) (h : spec_P6Yarns.f k l0 = some r) :
    Calls Try.prog 5 #[.slice A0 l0.length c0] w fun e w' => ∃ v0_ : Value, e = .returned (v0_) ∧ Kd.V k33 33 w' w.heap.size (fun k_ => (w.heap.size ≤ k_)) v0_ r ∧ Below w.heap.size w w' := by
 have HR0 := Aside0.mk hr0
 have HC0 := Aside0.mk hc0
 clear hr0 hc0
 have HB := Aside0.mk (Below.refl w.heap.size w)
 have H : ((spec_l00From.f l0).bind fun bt119 => ((spec_l00Src_pick.f bt119.1 bt119.2.1 bt119.2.2 7).bind fun bt126 => (spec_P6Yarns.l0 k (([] : List (S33))) bt126.1 bt119.1 bt126.2.1 bt126.2.2))) = some r := h
 clear h
 replace H := Option.bind_eq_some_iff.mp H
 obtain ⟨⟨t119, t120, t121⟩, A20, H⟩ := H
 replace H : ((spec_l00Src_pick.f t119 t120 t121 7).bind fun bt126 => (spec_P6Yarns.l0 k (([] : List (S33))) bt126.1 t119 bt126.2.1 bt126.2.2)) = some r := H
 have A2 := Aside0.mk A20
 clear A20
 obtain ⟨y123, hy123⟩ : ∃ y_ : List (S33), y_ = (([] : List (S33))) := ⟨_, rfl⟩
 replace H : ((spec_l00Src_pick.f t119 t120 t121 7).bind fun bt126 => (spec_P6Yarns.l0 k y123 bt126.1 t119 bt126.2.1 bt126.2.2)) = some r := by first | (rw [hy123]; with_reducible exact H) | (have H2_ := (Option.bind_some _ _).symm.trans H; rw [hy123]; with_reducible exact H2_) | (have H2_ := (Option.bind_some _ _).symm.trans H; with_reducible exact H2_) | with_reducible exact H | (rw [hy123]; exact H) | exact H
 have Ny123 := Aside0.mk hy123
 clear hy123
 replace H := Option.bind_eq_some_iff.mp H
 obtain ⟨⟨t126, t127, t128⟩, A30, H⟩ := H
 replace H : (spec_P6Yarns.l0 k y123 t126 t119 t127 t128) = some r := H
 have A3 := Aside0.mk A30
 clear A30
 have H' := Aside0.mk H
 clear H
 go_enter Try.func5, Try.ntmps5
 go_wp2_with (first | ((with_reducible refine gate_callee (f := 23) rfl ?_); refine goesL_ (some 7) rfl rfl Try.func23 (by kernel_rfl) rfl #[.slice A0 l0.length c0] rfl zr ?_; (with_reducible refine (spec_l00From.calls _ _ l0 t119 t120 t121 w _ ?side1 ?side2 ?side3 A2.out).mono ?_); (case side1 => repeat (first | (with_reducible first | exact HB.out | apply below_alloc | apply pw_below_drewN | apply below_drew1) | exact HB.out)); (case side2 => exact HR0.out); (case side3 => exact HC0.out); rintro e w4 ⟨g122, rfl, hi, hb, hb2⟩; refine ⟨_, rfl, ?_⟩; refine up2 (hb) (hi) ?_; clear HB; intro HB HI122; (try clear hb); (try clear hb2); (try clear hk); (try clear hi)) | ((with_reducible refine gate_dst (N := 8) rfl ?_); refine Kd.R_lit k33 _ 33 ?hg (N := 8) ?hd (xs := ([] : List (S33))) (inner := []) (ok := fun _ => True) (okp := fun _ => True) ?hr ?hp (fun _ hk => hk) trivial (Below.refl _ _) (Nat.le_refl _) (by simp) ?_; (case hd => rfl); (case hg => rfl); (case hr => first | (go_simp; done) | (go_simp; rfl)); (case hp => exact (Reps.none _ _)); intro v124 w5 ho6 hb hg_ hnew_; clear hg_ hnew_; (first | rw [← Ny123.out] at ho6 | (simp only [Int.reduceToNat] at ho6; rw [← Ny123.out] at ho6)); refine up3 (Kd.R_lower (Kd.R_newM (M := fun k_ => (w.heap.size ≤ k_)) ho6 (below_size (by repeat (first | (with_reducible first | exact HB.out | apply below_alloc | apply pw_below_drewN | apply below_drew1 | refine below_set ?_ (IsS83.ge HI122.out)) | exact HB.out))) (fun k_ h_ => h_)) (below_size (by repeat (first | (with_reducible first | exact HB.out | apply below_alloc | apply pw_below_drewN | apply below_drew1 | refine below_set ?_ (IsS83.ge HI122.out)) | exact HB.out)))) (IsS83.below (by repeat (first | (with_reducible first | exact HI122.out | apply IsS83.alloc | apply IsS83.drewN | apply IsS83.drew | apply IsS83.set_1 | apply IsS83.set_2) | exact HI122.out)) hb) (below_step (by repeat (first | (with_reducible first | exact HB.out | apply below_alloc | apply pw_below_drewN | apply below_drew1 | refine below_set ?_ (IsS83.ge HI122.out)) | exact HB.out)) hb) ?_; clear HI122 HB; intro HO125 HI122 HB; clear hb ho6) | ((with_reducible refine gate_callee (f := 24) rfl ?_); refine goesL_ (some 10) rfl rfl Try.func24 (by kernel_rfl) rfl #[.pointer (some ⟨g122, 0, none⟩), .int .i64 7] rfl zr ?_; (with_reducible refine (spec_l00Src_pick.calls g122 t119 t120 t121 7 t126 t127 t128 w _ ?side1 ?side2 A3.out).mono ?_); (case side1 => repeat (first | (with_reducible first | exact HI122.out | apply IsS83.alloc | apply IsS83.drewN | apply IsS83.drew | apply IsS83.set_1 | apply IsS83.set_2) | exact HI122.out)); (case side2 => repeat (first | (with_reducible first | exact HB.out | apply below_alloc | apply pw_below_drewN | apply below_drew1 | refine below_set ?_ (IsS83.ge HI122.out)) | exact HB.out)); rintro e w7 ⟨rfl, hi, hb, hk⟩; refine ⟨_, rfl, ?_⟩; refine up3 (Kd.R_mono (Kd.R_keep (IsS83.apart (show IsS83 w _ g122 t119 t120 t121 from by repeat (first | (with_reducible first | exact HI122.out | apply IsS83.alloc | apply IsS83.drewN | apply IsS83.drew | apply IsS83.set_1 | apply IsS83.set_2) | exact HI122.out)) (zw HO125.out) (by decide)) hk (fun _ h => h.2)) (fun _ h => h.1)) (hb) (hi) ?_; clear HO125 HB HI122; intro HO125 HB HI122; (try clear hb); (try clear hb2); (try clear hk); (try clear hi)))
 go_loopg [4, 5] k (fun kq v4 v5 w' => ∃ (x4_1 : List (S33)) (x5_1 : Int) (x123001_1 : Int) (x123002_1 : Int), v5 = .int .i64 x5_1 ∧ Aside0 (spec_P6Yarns.l0 kq x4_1 x5_1 t119 x123001_1 x123002_1 = some r) ∧ Aside0 (kq ≤ k) ∧ Aside0 (Kd.R k33 33 w' w.heap.size (fun k_ => (w.heap.size ≤ k_)) v4 x4_1) ∧ Aside0 (IsS83 w w' g122 t119 x123001_1 x123002_1) ∧ Aside0 (Below w.heap.size w w'))
 case atStart => exact ⟨(y123), (t126), (t127), (t128), zx, H', ⟨Nat.le_refl _⟩, ⟨by (with_reducible repeat (first | apply Kd.R_alloc | apply Kd.R_drewN | apply Kd.R_drew)); exact Kd.R_mono HO125.out (fun _ hk => hk.1)⟩, ⟨by repeat (first | (with_reducible first | exact HI122.out | apply IsS83.alloc | apply IsS83.drewN | apply IsS83.drew | apply IsS83.set_1 | apply IsS83.set_2) | exact HI122.out)⟩, ⟨by repeat (first | (with_reducible first | exact HB.out | apply below_alloc | apply pw_below_drewN | apply below_drew1 | refine below_set ?_ (IsS83.ge HI122.out)) | exact HB.out)⟩⟩
 case round =>
 clear H'
 try clear c2
 try clear p2
 try clear c5
 obtain ⟨x4_1, x5_1, x123001_1, x123002_1, rfl, HA, HK1, HO_4, HI122, HB⟩ := hrel
 cases gk with
 | zero => exact absurd HA.out (by simp [spec_P6Yarns.l0])
 | succ k1 =>
  have H := HA.out
  clear HA
  simp only [spec_P6Yarns.l0] at H
  by_cases c8 : x5_1 > 0
  rotate_left
  · rw [if_neg c8] at H
    have c8b0 : decide (0 < x5_1) = false := decide_eq_false c8
    clear c8
    obtain rfl := Option.some.inj H
    go_wp2
    go_ret
    exact ⟨_, zs, Kd.R_V (zw HO_4.out), by repeat (first | (with_reducible first | exact HB.out | apply below_alloc | apply pw_below_drewN | apply below_drew1 | refine below_set ?_ (IsS83.ge HI122.out)) | exact HB.out)⟩
  rw [if_pos c8] at H
  have c8b0 : decide (0 < x5_1) = true := decide_eq_true c8
  clear c8
  replace H := Option.bind_eq_some_iff.mp H
  obtain ⟨⟨t129, t130, t131, t132, t133⟩, A90, H⟩ := H
  replace H : (if x4_1.length < 23456248059221 then (spec_P6Yarns.l0 k1 (x4_1 ++ [(⟨t129, t130, t131⟩ : S33)]) (wrap64 (x5_1 - 1)) t119 t132 t133) else (none)) = some r := H
  have A9 := Aside0.mk A90
  clear A90
  by_cases c10 : x4_1.length < 23456248059221
  rotate_left
  · rw [if_neg c10] at H
    exact absurd H (by simp)
  rw [if_pos c10] at H
  have LMc10 := Aside0.mk c10
  clear c10
  obtain ⟨y134, hy134⟩ : ∃ y_ : List (S33), y_ = (x4_1 ++ [(⟨t129, t130, t131⟩ : S33)]) := ⟨_, rfl⟩
  replace H : (spec_P6Yarns.l0 k1 y134 (wrap64 (x5_1 - 1)) t119 t132 t133) = some r := by first | (rw [hy134]; with_reducible exact H) | (have H2_ := (Option.bind_some _ _).symm.trans H; rw [hy134]; with_reducible exact H2_) | (have H2_ := (Option.bind_some _ _).symm.trans H; with_reducible exact H2_) | with_reducible exact H | (rw [hy134]; exact H) | exact H
  have Ny134 := Aside0.mk hy134
  clear hy134
  have H' := Aside0.mk H
  clear H
  go_wp2_with (first | ((with_reducible refine gate_callee (f := 25) rfl ?_); refine goesL_ (some 17) rfl rfl Try.func25 (by kernel_rfl) rfl #[.pointer (some ⟨g122, 0, none⟩)] rfl zr ?_; (with_reducible refine (spec_l03Drawn.calls g122 t119 x123001_1 x123002_1 t129 t130 t131 t132 t133 w _ ?side1 ?side2 A9.out).mono ?_); (case side1 => repeat (first | (with_reducible first | exact HI122.out | apply IsS83.alloc | apply IsS83.drewN | apply IsS83.drew | apply IsS83.set_1 | apply IsS83.set_2) | exact HI122.out)); (case side2 => repeat (first | (with_reducible first | exact HB.out | apply below_alloc | apply pw_below_drewN | apply below_drew1 | refine below_set ?_ (IsS83.ge HI122.out)) | exact HB.out)); rintro e w11 ⟨rfl, hi, hb, hk⟩; refine ⟨_, rfl, ?_⟩; have n0_ := Aside0.mk (Kd.R_mono (Kd.R_keep (IsS83.apart (show IsS83 w _ g122 t119 x123001_1 x123002_1 from by repeat (first | (with_reducible first | exact HI122.out | apply IsS83.alloc | apply IsS83.drewN | apply IsS83.drew | apply IsS83.set_1 | apply IsS83.set_2) | exact HI122.out)) (zw HO_4.out) (by decide)) hk (fun _ h => h.2)) (fun _ h => h.1)); have n1_ := Aside0.mk (hb); have n2_ := Aside0.mk (hi); (try clear HO_4); clear HB; clear HI122; have HO_4 := n0_; have HB := n1_; have HI122 := n2_; clear n0_ n1_ n2_; (try clear hb); (try clear hb2); (try clear hk); (try clear hi)) | ((with_reducible refine gate_builtin (b := .append) (xs := #[.tmp 15, .tmp 18]) rfl ?_); at_builtin; refine Kd.R_append k33 (w0 := w) w.heap.size rfl (.tmp 15) (.tmp 18) 24 33 (.agg #[(.int .i16 0), (.int .i16 0), (.int .i16 0)]) 6 rfl Try.underlying24 info33 rfl (by decide) (by omega) u4 x4_1 (⟨t129, t130, t131⟩ : S33) [.int .i16 t129, .int .i16 t130, .int .i16 t131] (fun k_ => (w.heap.size ≤ k_)) (fun _ => False) rfl rfl ?aP (fun _ hk => hk.elim) ?aF ?aO ?aB ?aS ?aL ?_; (case aP => exact k33_mkM _ _ _ (⟨t129, t130, t131⟩ : S33)); (case aB => exact (by repeat (first | (with_reducible first | exact HB.out | apply below_alloc | apply pw_below_drewN | apply below_drew1 | refine below_set ?_ (IsS83.ge HI122.out)) | exact HB.out))); (case aF => exact (fun k_ hk => (Nat.le_trans (below_size (by repeat (first | (with_reducible first | exact HB.out | apply below_alloc | apply pw_below_drewN | apply below_drew1 | refine below_set ?_ (IsS83.ge HI122.out)) | exact HB.out))) hk))); (case aO => exact (zw HO_4.out)); (case aS => exact (below_size (by repeat (first | (with_reducible first | exact HB.out | apply below_alloc | apply pw_below_drewN | apply below_drew1 | refine below_set ?_ (IsS83.ge HI122.out)) | exact HB.out)))); (case aL => have := LMc10.out; omega); intro v135 w12 ho hb hg hat; rw [← Ny134.out] at ho; have n0_ := Aside0.mk (IsS83.grown (by repeat (first | (with_reducible first | exact HI122.out | apply IsS83.alloc | apply IsS83.drewN | apply IsS83.drew | apply IsS83.set_1 | apply IsS83.set_2) | exact HI122.out)) hg (IsS83.own_ne HI122.out HO_4.out (by decide))); have n1_ := Aside0.mk (hb); have n2_ := Aside0.mk (ho); clear HI122; clear HB; (try clear HO_4); have HI122 := n0_; have HB := n1_; have HO136 := n2_; clear n0_ n1_ n2_; clear ho hb hg hat))
  go_roundg k1
  case measure => have := HK1.out; omega
  case rel => exact ⟨(y134), (wrap64 (x5_1 - 1)), (t132), (t133), zx, H', ⟨by have := HK1.out; omega⟩, ⟨zw HO136.out⟩, ⟨by repeat (first | (with_reducible first | exact HI122.out | apply IsS83.alloc | apply IsS83.drewN | apply IsS83.drew | apply IsS83.set_1 | apply IsS83.set_2) | exact HI122.out)⟩, ⟨by repeat (first | (with_reducible first | exact HB.out | apply below_alloc | apply pw_below_drewN | apply below_drew1 | refine below_set ?_ (IsS83.ge HI122.out)) | exact HB.out)⟩⟩

/-! ### spec_P6Pick: function 6 -/
def spec_P6Pick.f (l0 : List Int) (a1 : Int) : Option (Int) := (spec_l00From.f l0).bind fun bt137 => ((spec_l00Src_pick.f bt137.1 bt137.2.1 bt137.2.2 a1).bind fun bt141 => (some bt141.1))
set_option maxHeartbeats 8000000 in
set_option maxRecDepth 100000 in
theorem spec_P6Pick.calls (A0 : Option Addr) (c0 : Nat) (l0 : List Int) (a1 : Int) (r : Int) (w : World) (hr0 : Kd.C (Kd.int .u8) w A0 l0.length l0) (hc0 : l0.length ≤ c0) (h : spec_P6Pick.f l0 a1 = some r) :
    Calls Try.prog 6 #[.slice A0 l0.length c0, .int .i64 a1] w fun e w' => e = .returned (.int .i64 r) ∧ Below w.heap.size w w' := by
 have HR0 := Aside0.mk hr0
 have HC0 := Aside0.mk hc0
 clear hr0 hc0
 have HB := Aside0.mk (Below.refl w.heap.size w)
 have H : ((spec_l00From.f l0).bind fun bt137 => ((spec_l00Src_pick.f bt137.1 bt137.2.1 bt137.2.2 a1).bind fun bt141 => (some bt141.1))) = some r := h
 clear h
 replace H := Option.bind_eq_some_iff.mp H
 obtain ⟨⟨t137, t138, t139⟩, A30, H⟩ := H
 replace H : ((spec_l00Src_pick.f t137 t138 t139 a1).bind fun bt141 => (some bt141.1)) = some r := H
 have A3 := Aside0.mk A30
 clear A30
 replace H := Option.bind_eq_some_iff.mp H
 obtain ⟨⟨t141, t142, t143⟩, A40, H⟩ := H
 replace H : (some t141) = some r := H
 have A4 := Aside0.mk A40
 clear A40
 obtain rfl := Option.some.inj H
 go_enter Try.func6, Try.ntmps6
 go_wp2_with (first | ((with_reducible refine gate_callee (f := 23) rfl ?_); refine goesL_ (some 6) rfl rfl Try.func23 (by kernel_rfl) rfl #[.slice A0 l0.length c0] rfl zr ?_; (with_reducible refine (spec_l00From.calls _ _ l0 t137 t138 t139 w _ ?side1 ?side2 ?side3 A3.out).mono ?_); (case side1 => repeat (first | (with_reducible first | exact HB.out | apply below_alloc | apply pw_below_drewN | apply below_drew1) | exact HB.out)); (case side2 => exact HR0.out); (case side3 => exact HC0.out); rintro e w5 ⟨g140, rfl, hi, hb, hb2⟩; refine ⟨_, rfl, ?_⟩; refine up2 (hb) (hi) ?_; clear HB; intro HB HI140; (try clear hb); (try clear hb2); (try clear hk); (try clear hi)) | ((with_reducible refine gate_callee (f := 24) rfl ?_); refine goesL_ (some 8) rfl rfl Try.func24 (by kernel_rfl) rfl #[.pointer (some ⟨g140, 0, none⟩), .int .i64 a1] rfl zr ?_; (with_reducible refine (spec_l00Src_pick.calls g140 t137 t138 t139 a1 t141 t142 t143 w _ ?side1 ?side2 A4.out).mono ?_); (case side1 => repeat (first | (with_reducible first | exact HI140.out | apply IsS83.alloc | apply IsS83.drewN | apply IsS83.drew | apply IsS83.set_1 | apply IsS83.set_2) | exact HI140.out)); (case side2 => repeat (first | (with_reducible first | exact HB.out | apply below_alloc | apply pw_below_drewN | apply below_drew1 | refine below_set ?_ (IsS83.ge HI140.out)) | exact HB.out)); rintro e w6 ⟨rfl, hi, hb, hk⟩; refine ⟨_, rfl, ?_⟩; refine up2 (hb) (hi) ?_; clear HB HI140; intro HB HI140; (try clear hb); (try clear hb2); (try clear hk); (try clear hi)))
 go_ret
 exact ⟨zs, by repeat (first | (with_reducible first | exact HB.out | apply below_alloc | apply pw_below_drewN | apply below_drew1 | refine below_set ?_ (IsS83.ge HI140.out)) | exact HB.out)⟩

def idxO {α : Type} (q : α → Option Bool) : List α → Int → Option Int
  | [], _ => some (-1)
  | x :: l, i => (q x).bind fun b => if b = true then some i else idxO q l (i + 1)
def allO {α : Type} (q : α → Option Bool) : List α → Option Bool
  | [] => some true
  | x :: l => (q x).bind fun b => if b = true then allO q l else some false
/-- The first place at which q holds, or -1. -/
def idxG {α : Type} (l : List α) (q : α → Option Bool) : Option Int := if (l.length : Int) ≤ 4611686018427387904 then idxO q l 0 else none
/-- Does q hold of all? -/
def allG {α : Type} (l : List α) (q : α → Option Bool) : Option Bool := if (l.length : Int) ≤ 4611686018427387904 then allO q l else none
theorem idxO_mono {α : Type} {q q' : α → Option Bool} (h : ∀ x, LeO (q x) (q' x)) : ∀ (l : List α) (i : Int), LeO (idxO q l i) (idxO q' l i)
  | [], i => LeO.refl _
  | x :: l, i => by
    simp only [idxO]
    exact LeO.bind (h x) (fun b => LeO.ite (LeO.refl _) (idxO_mono h l (i + 1)))
theorem allO_mono {α : Type} {q q' : α → Option Bool} (h : ∀ x, LeO (q x) (q' x)) : ∀ (l : List α), LeO (allO q l) (allO q' l)
  | [] => LeO.refl _
  | x :: l => by
    simp only [allO]
    exact LeO.bind (h x) (fun b => LeO.ite (allO_mono h l) (LeO.refl _))
theorem idxG_mono {α : Type} (l : List α) {q q' : α → Option Bool} (h : ∀ x, LeO (q x) (q' x)) : LeO (idxG l q) (idxG l q') := LeO.ite (idxO_mono h l 0) (LeO.refl _)
theorem allG_mono {α : Type} (l : List α) {q q' : α → Option Bool} (h : ∀ x, LeO (q x) (q' x)) : LeO (allG l q) (allG l q') := LeO.ite (allO_mono h l) (LeO.refl _)
theorem idxO_all {α : Type} (q : α → Option Bool) : ∀ (l : List α) (i : Int) (r : Bool), 0 ≤ i → allO q l = some r → ∃ j, idxO (fun x => (q x).map (!·)) l i = some j ∧ (!decide (0 ≤ j)) = r
  | [], i, r, _, h => ⟨-1, rfl, by simp only [allO, Option.some.injEq] at h; subst h; decide⟩
  | x :: l, i, r, hi, h => by
    simp only [allO] at h
    obtain ⟨b, hb, h⟩ := Option.bind_eq_some_iff.mp h
    cases b with
    | true =>
      simp only [if_true] at h
      obtain ⟨j, h1, h2⟩ := idxO_all q l (i + 1) r (by omega) h
      exact ⟨j, by simp [idxO, hb, h1], h2⟩
    | false =>
      simp only [Bool.false_eq_true, if_false, Option.some.injEq] at h
      subst h
      exact ⟨i, by simp [idxO, hb], by simp [hi]⟩
theorem idxG_all {α : Type} (q : α → Option Bool) (l : List α) (r : Bool) (h : allG l q = some r) : ∃ j, idxG l (fun x => (q x).map (!·)) = some j ∧ (!decide (0 ≤ j)) = r := by
  unfold allG at h
  split at h
  · rename_i hl
    obtain ⟨j, h1, h2⟩ := idxO_all q l 0 r (by omega) h
    exact ⟨j, by unfold idxG; rw [if_pos hl]; exact h1, h2⟩
  · cases h

/-! ### impl_Yarn_70: function 70 -/
@[reducible] def impl_Yarn_70.f (l0 : List S33) (q : S33 → Option Bool) : Option Int := idxG l0 q
set_option maxHeartbeats 2000000 in
theorem impl_Yarn_70.calls (A0 : Option Addr) (c0 : Nat) (l0 : List S33) (q : S33 → Option Bool) (g : Nat) (lb : Array Value) (eg : ∀ args w, (callFunc g args).run Try.prog w = .ok (.enter g args) w) (r : Int) (w : World) (hr0 : Kd.C k33 w A0 l0.length l0) (hc0 : l0.length ≤ c0) (hp : ∀ (x : S33) (b : Bool) (W : World), Below w.heap.size w W → q x = some b → Calls Try.prog g (#[.agg #[.int .i16 x.f0, .int .i16 x.f1, .int .i16 x.f2]] ++ lb) W fun e w' => e = .returned (.bool b) ∧ Below W.heap.size W w') (h : impl_Yarn_70.f l0 q = some r) :
    Calls Try.prog 70 #[.slice A0 l0.length c0, .func (.func g) #[] lb] w fun e w' => e = .returned (.int .i64 r) ∧ Below w.heap.size w w' := by
 have h : idxG l0 q = some r := h
 unfold idxG at h
 split at h
 next hlen =>
  have HR0 := Aside0.mk hr0
  have HP := Aside0.mk hp
  have HH := Aside0.mk h
  clear hr0 hp h
  go_enter Try.func70, Try.ntmps70
  go_wp2
  go_loopg [5, 8] l0.length (fun gg _ v8 wr => ∃ kk : Nat, kk ≤ l0.length ∧ l0.length - kk ≤ gg ∧ v8 = .int .i64 kk ∧ Aside0 (Below w.heap.size w wr) ∧ Aside0 (idxO q (l0.drop kk) kk = some r))
  case atStart => exact ⟨0, Nat.zero_le _, by omega, rfl, ⟨Below.refl _ w⟩, ⟨by simpa using HH.out⟩⟩
  case round =>
  clear HH
  obtain ⟨kk, hkk, hg, rfl, BW, HA⟩ := hrel
  by_cases hlt : kk < l0.length
  rotate_left
  · have hltz : ¬ (kk : Int) < (l0.length : Int) := by omega
    have : kk = l0.length := by omega
    subst this
    have hr : (-1 : Int) = r := by have := HA.out; simpa [idxO] using this
    go_wp2
    go_ret
    exact ⟨by subst hr; rfl, BW.out⟩
  have hltz : (kk : Int) < (l0.length : Int) := by omega
  obtain ⟨ad, e, hx0, hx1, hx2⟩ := at_T33 HR0.out (kk : Int) (by omega) (by omega)
  cases e
  simp only [Int.toNat_natCast] at hx0 hx1 hx2
  replace hx0 := zc BW.out hx0
  replace hx1 := zc BW.out hx1
  replace hx2 := zc BW.out hx2
  have hrd : rd_T33 l0 (kk : Int) = l0[kk] := by unfold rd_T33; simp [List.getD, hlt]
  have hA := HA.out
  rw [List.drop_eq_getElem_cons hlt] at hA
  simp only [idxO] at hA
  obtain ⟨b, hb, hA⟩ := Option.bind_eq_some_iff.mp hA
  rw [← hrd] at hb
  have hcall := HP.out (rd_T33 l0 (kk : Int)) b wr BW.out hb
  clear hrd hb
  generalize rd_T33 l0 (kk : Int) = y at hx0 hx1 hx2 hcall
  have HA2 := Aside0.mk hA
  clear hA
  cases b with
  | true =>
   go_wp2_with (go_at_fn g; refine hcall.mono ?_; rintro e w' ⟨rfl, hb'⟩)
   go_ret
   have hr : (kk : Int) = r := by have := HA2.out; simpa using this
   exact ⟨by subst hr; rfl, BW.out.trans (hb'.mono BW.out.size)⟩
  | false =>
   go_wp2_with (go_at_fn g; refine hcall.mono ?_; rintro e w' ⟨rfl, hb'⟩)
   go_roundg (l0.length - (kk + 1))
   case measure => omega
   case rel => exact ⟨kk + 1, by omega, by omega, by go_num, ⟨BW.out.trans (hb'.mono BW.out.size)⟩, ⟨by have := HA2.out; simpa using this⟩⟩
 next => cases h

theorem impl_Yarn_70.eg : ∀ args w, (callFunc 70 args).run Try.prog w = .ok (.enter 70 args) w := enters_of Try.func70 (by kernel_rfl) rfl

/-! ### impl_Yarn_65: function 65 -/
@[reducible] def impl_Yarn_65.f (l0 : List S33) (q : S33 → Option Bool) : Option Bool := (idxG l0 q).bind fun j => some (decide (0 ≤ j))
set_option maxHeartbeats 1000000 in
theorem impl_Yarn_65.calls (A0 : Option Addr) (c0 : Nat) (l0 : List S33) (q : S33 → Option Bool) (g : Nat) (lb : Array Value) (eg : ∀ args w, (callFunc g args).run Try.prog w = .ok (.enter g args) w) (r : Bool) (w : World) (hr0 : Kd.C k33 w A0 l0.length l0) (hc0 : l0.length ≤ c0) (hp : ∀ (x : S33) (b : Bool) (W : World), Below w.heap.size w W → q x = some b → Calls Try.prog g (#[.agg #[.int .i16 x.f0, .int .i16 x.f1, .int .i16 x.f2]] ++ lb) W fun e w' => e = .returned (.bool b) ∧ Below W.heap.size W w') (h : impl_Yarn_65.f l0 q = some r) :
    Calls Try.prog 65 #[.slice A0 l0.length c0, .func (.func g) #[] lb] w fun e w' => e = .returned (.bool r) ∧ Below w.heap.size w w' := by
 obtain ⟨j, hj, hr⟩ := Option.bind_eq_some_iff.mp h
 have hc := impl_Yarn_70.calls A0 c0 l0 q g lb eg j w hr0 hc0 hp hj
 have HR := Aside0.mk (Option.some.inj hr)
 clear hr0 hp h hj hr
 go_enter Try.func65, Try.ntmps65
 go_wp2_with (go_at_call 70; refine hc.mono ?_; rintro e w' ⟨rfl, hb'⟩)
 go_ret
 exact ⟨by rw [← HR.out]; rfl, hb'⟩

/-! ### impl_Yarn_1: function 66 -/
theorem impl_Yarn_1.eg : ∀ args w, (callFunc 66 args).run Try.prog w = .ok (.enter 66 args) w := enters_of Try.func66 (by kernel_rfl) rfl
set_option maxHeartbeats 1000000 in
theorem impl_Yarn_1.calls (q : S33 → Option Bool) (g : Nat) (lb : Array Value) (eg : ∀ args w, (callFunc g args).run Try.prog w = .ok (.enter g args) w) (B : Nat) (w : World) (hB : B < w.heap.size) (hcell : w.cell? ⟨B, 0, none⟩ = some (.func (.func g) #[] lb))
    (hp : ∀ (x : S33) (b : Bool) (W : World), Below w.heap.size w W → q x = some b → Calls Try.prog g (#[.agg #[.int .i16 x.f0, .int .i16 x.f1, .int .i16 x.f2]] ++ lb) W fun e w' => e = .returned (.bool b) ∧ Below W.heap.size W w') (x : S33) (b : Bool) (W : World) (hb : Below w.heap.size w W) (hq : (q x).map (!·) = some b) :
    Calls Try.prog 66 (#[.agg #[.int .i16 x.f0, .int .i16 x.f1, .int .i16 x.f2]] ++ #[.pointer (some ⟨B, 0, none⟩)]) W fun e w' => e = .returned (.bool b) ∧ Below W.heap.size W w' := by
 obtain ⟨b', hq', hbb⟩ := Option.map_eq_some_iff.mp hq
 have hc : W.cell? ⟨B, 0, none⟩ = some (.func (.func g) #[] lb) := (hb.cell (p := ⟨B, 0, none⟩) hB).trans hcell
 have hBW : B < W.heap.size := Nat.lt_of_lt_of_le hB hb.size
 have hne : B ≠ W.heap.size := by omega
 have hcall := hp x b' (W.alloc (.cells #[.int .i16 x.f0, .int .i16 x.f1, .int .i16 x.f2] 33)) (hb.alloc hb.size _) hq'
 have hb1 : Below W.heap.size W (W.alloc (.cells #[.int .i16 x.f0, .int .i16 x.f1, .int .i16 x.f2] 33)) := (Below.refl _ W).alloc (Nat.le_refl _) _
 have HQ := Aside0.mk hbb
 clear hp hq hq' hbb
 show Calls Try.prog 66 #[.agg #[.int .i16 x.f0, .int .i16 x.f1, .int .i16 x.f2], .pointer (some ⟨B, 0, none⟩)] W _
 go_enter Try.func66, Try.ntmps66
 go_wp2_with (go_at_fn g; refine hcall.mono ?_; rintro e w' ⟨rfl, hb'⟩)
 go_ret
 exact ⟨by rw [← HQ.out]; rfl, hb1.trans (hb'.mono (by simp))⟩

/-! ### impl_Yarn_57: function 57 -/
@[reducible] def impl_Yarn_57.f (l0 : List S33) (q : S33 → Option Bool) : Option Bool := allG l0 q
set_option maxHeartbeats 1000000 in
theorem impl_Yarn_57.calls (A0 : Option Addr) (c0 : Nat) (l0 : List S33) (q : S33 → Option Bool) (g : Nat) (lb : Array Value) (eg : ∀ args w, (callFunc g args).run Try.prog w = .ok (.enter g args) w) (r : Bool) (w : World) (hr0 : Kd.C k33 w A0 l0.length l0) (hc0 : l0.length ≤ c0) (hp : ∀ (x : S33) (b : Bool) (W : World), Below w.heap.size w W → q x = some b → Calls Try.prog g (#[.agg #[.int .i16 x.f0, .int .i16 x.f1, .int .i16 x.f2]] ++ lb) W fun e w' => e = .returned (.bool b) ∧ Below W.heap.size W w') (h : impl_Yarn_57.f l0 q = some r) :
    Calls Try.prog 57 #[.slice A0 l0.length c0, .func (.func g) #[] lb] w fun e w' => e = .returned (.bool r) ∧ Below w.heap.size w w' := by
 obtain ⟨j, hj, hr⟩ := idxG_all q l0 r h
 have hb1 : Below w.heap.size w (w.alloc (.cells #[.func (.func g) #[] lb] 88)) := (Below.refl _ w).alloc (Nat.le_refl _) _
 have hc := impl_Yarn_65.calls A0 c0 l0 (fun x => (q x).map (!·)) 66 #[.pointer (some ⟨w.heap.size, 0, none⟩)] impl_Yarn_1.eg (decide (0 ≤ j)) (w.alloc (.cells #[.func (.func g) #[] lb] 88)) (Kd.C_alloc hr0 _) hc0
  (fun x b W hW hq => impl_Yarn_1.calls q g lb eg w.heap.size _ (by simp) (by simp) (fun x b W hW hq => hp x b W (hb1.trans (hW.mono (by simp))) hq) x b W hW hq) (by show (idxG l0 _).bind _ = _; rw [hj]; rfl)
 have HR := Aside0.mk hr
 clear hr0 hp h hj hr
 generalize decide (0 ≤ j) = jj at hc HR
 go_enter Try.func57, Try.ntmps57
 go_wp2_with (go_at_call 65; refine hc.mono ?_; rintro e w' ⟨rfl, hb'⟩)
 go_ret
 exact ⟨by rw [← HR.out]; rfl, hb1.trans (hb'.mono (by simp))⟩

/-! ### impl_within: function 45 -/
def impl_within.f (a0 : Int) (a1 : Int) (a2 : Int) : Option (Bool) := if a1 ≤ a0 then (some (decide (a0 ≤ a2))) else (some false)
set_option maxHeartbeats 8000000 in
set_option maxRecDepth 100000 in
theorem impl_within.calls (a0 : Int) (a1 : Int) (a2 : Int) (r : Bool) (w : World) (h : impl_within.f a0 a1 a2 = some r) :
    Calls Try.prog 45 #[.int .i64 a0, .int .i64 a1, .int .i64 a2] w fun e w' => e = .returned (.bool r) ∧ Drawn0 w w' := by
 have H : (if a1 ≤ a0 then (some (decide (a0 ≤ a2))) else (some false)) = some r := h
 clear h
 by_cases c4 : a1 ≤ a0
 · rw [if_pos c4] at H
   have c4b0 : decide (a1 ≤ a0) = true := decide_eq_true c4
   clear c4
   obtain rfl := Option.some.inj H
   go_enter Try.func45, Try.ntmps45
   go_wp2
   go_ret
   exact ⟨zx, by repeat (first | exact Drawn0.refl _ | apply Drawn0.step)⟩
 rw [if_neg c4] at H
 have c4b0 : decide (a1 ≤ a0) = false := decide_eq_false c4
 clear c4
 obtain rfl := Option.some.inj H
 go_enter Try.func45, Try.ntmps45
 go_wp2
 go_ret
 exact ⟨zx, by repeat (first | exact Drawn0.refl _ | apply Drawn0.step)⟩

/-! ### impl_ValidYarn: function 58 -/
def impl_ValidYarn.f (a0_0 : Int) (a0_1 : Int) (a0_2 : Int) : Option (Bool) := (impl_within.f (wrap64 (a0_0)) 1 5000).bind fun t145 => (if t145 = true then ((impl_within.f (wrap64 (a0_1)) (-2000) 2000).bind fun t146 => (if t146 = true then ((impl_within.f (wrap64 (a0_2)) 1 2000).bind fun t147 => (some t147)) else (some false))) else (some false))
set_option maxHeartbeats 8000000 in
set_option maxRecDepth 100000 in
theorem impl_ValidYarn.calls (a0_0 : Int) (a0_1 : Int) (a0_2 : Int) (r : Bool) (w : World) (h : impl_ValidYarn.f a0_0 a0_1 a0_2 = some r) :
    Calls Try.prog 58 #[.agg #[.int .i16 a0_0, .int .i16 a0_1, .int .i16 a0_2]] w fun e w' => e = .returned (.bool r) ∧ Below w.heap.size w w' := by
 have hu33 := Try.underlying33
 have HB := Aside0.mk (Below.refl w.heap.size w)
 have H : ((impl_within.f (wrap64 (a0_0)) 1 5000).bind fun t145 => (if t145 = true then ((impl_within.f (wrap64 (a0_1)) (-2000) 2000).bind fun t146 => (if t146 = true then ((impl_within.f (wrap64 (a0_2)) 1 2000).bind fun t147 => (some t147)) else (some false))) else (some false))) = some r := h
 clear h
 replace H := Option.bind_eq_some_iff.mp H
 obtain ⟨t145, A20, H⟩ := H
 replace H : (if t145 = true then ((impl_within.f (wrap64 (a0_1)) (-2000) 2000).bind fun t146 => (if t146 = true then ((impl_within.f (wrap64 (a0_2)) 1 2000).bind fun t147 => (some t147)) else (some false))) else (some false)) = some r := H
 have A2 := Aside0.mk A20
 clear A20
 by_cases c3 : t145 = true
 rotate_left
 · replace c3 := Bool.eq_false_iff.mpr c3
   subst c3
   have H1 : (some false) = some r := by rw [if_neg (show ¬ (false = true) by decide)] at H; exact H
   clear H
   have H := H1
   clear H1
   obtain rfl := Option.some.inj H
   go_enter Try.func58, Try.ntmps58
   go_wp2_with (first | ((with_reducible refine gate_dst (N := 1) rfl ?_); refine box_event ?hg (N := 1) ?hd (cs := #[.int .i16 a0_0, .int .i16 a0_1, .int .i16 a0_2]) (t := 33) ?hr ?_; (case hd => rfl); (case hg => rfl); (case hr => first | (go_simp; done) | (go_simp; rfl)); intro gb144 hg w11 hbox hb; refine up4 (below_step (zb HB.out) hb) (hbox) ((by rw [hg]; exact (below_size (zb HB.out)) : w.heap.size ≤ gb144)) ((by rw [hg]; exact (below_size (zb HB.out)) : w.heap.size ≤ gb144)) ?_; clear HB; intro HB BK144 GW144 GE144; clear hb hbox hg; have hcz12_0 : w11.cell? ⟨gb144, 0, none⟩ = some (.int .i16 a0_0) := (blk_cell BK144.out 0).trans rfl; have hcz12_1 : w11.cell? ⟨gb144, 1, none⟩ = some (.int .i16 a0_1) := (blk_cell BK144.out 1).trans rfl; have hcz12_2 : w11.cell? ⟨gb144, 2, none⟩ = some (.int .i16 a0_2) := (blk_cell BK144.out 2).trans rfl; have hfz12_0 := blk_frozen BK144.out 0; have hfz12_1 := blk_frozen BK144.out 1; have hfz12_2 := blk_frozen BK144.out 2) | ((with_reducible refine gate_callee (f := 45) rfl ?_); refine goesL_ (some 6) rfl rfl Try.func45 (by kernel_rfl) rfl #[.int .i64 (wrap64 (a0_0)), .int .i64 1, .int .i64 5000] rfl zr ?_; (with_reducible refine (impl_within.calls (wrap64 (a0_0)) 1 5000 false _ A2.out).mono ?_); rintro e w' ⟨rfl, ⟨nd, rfl⟩⟩; refine ⟨_, rfl, ?_⟩))
   go_ret
   exact ⟨zs, zb1 HB.out GE144.out⟩
 subst c3
 have H1 : ((impl_within.f (wrap64 (a0_1)) (-2000) 2000).bind fun t146 => (if t146 = true then ((impl_within.f (wrap64 (a0_2)) 1 2000).bind fun t147 => (some t147)) else (some false))) = some r := by rw [if_pos rfl] at H; exact H
 clear H
 have H := H1
 clear H1
 replace H := Option.bind_eq_some_iff.mp H
 obtain ⟨t146, A40, H⟩ := H
 replace H : (if t146 = true then ((impl_within.f (wrap64 (a0_2)) 1 2000).bind fun t147 => (some t147)) else (some false)) = some r := H
 have A4 := Aside0.mk A40
 clear A40
 by_cases c5 : t146 = true
 rotate_left
 · replace c5 := Bool.eq_false_iff.mpr c5
   subst c5
   have H1 : (some false) = some r := by rw [if_neg (show ¬ (false = true) by decide)] at H; exact H
   clear H
   have H := H1
   clear H1
   obtain rfl := Option.some.inj H
   go_enter Try.func58, Try.ntmps58
   go_wp2_with (first | ((with_reducible refine gate_dst (N := 1) rfl ?_); refine box_event ?hg (N := 1) ?hd (cs := #[.int .i16 a0_0, .int .i16 a0_1, .int .i16 a0_2]) (t := 33) ?hr ?_; (case hd => rfl); (case hg => rfl); (case hr => first | (go_simp; done) | (go_simp; rfl)); intro gb144 hg w9 hbox hb; refine up4 (below_step (zb HB.out) hb) (hbox) ((by rw [hg]; exact (below_size (zb HB.out)) : w.heap.size ≤ gb144)) ((by rw [hg]; exact (below_size (zb HB.out)) : w.heap.size ≤ gb144)) ?_; clear HB; intro HB BK144 GW144 GE144; clear hb hbox hg; have hcz10_0 : w9.cell? ⟨gb144, 0, none⟩ = some (.int .i16 a0_0) := (blk_cell BK144.out 0).trans rfl; have hcz10_1 : w9.cell? ⟨gb144, 1, none⟩ = some (.int .i16 a0_1) := (blk_cell BK144.out 1).trans rfl; have hcz10_2 : w9.cell? ⟨gb144, 2, none⟩ = some (.int .i16 a0_2) := (blk_cell BK144.out 2).trans rfl; have hfz10_0 := blk_frozen BK144.out 0; have hfz10_1 := blk_frozen BK144.out 1; have hfz10_2 := blk_frozen BK144.out 2) | ((with_reducible refine gate_callee (f := 45) rfl ?_); refine goesL_ (some 6) rfl rfl Try.func45 (by kernel_rfl) rfl #[.int .i64 (wrap64 (a0_0)), .int .i64 1, .int .i64 5000] rfl zr ?_; (with_reducible refine (impl_within.calls (wrap64 (a0_0)) 1 5000 true _ A2.out).mono ?_); rintro e w' ⟨rfl, ⟨nd, rfl⟩⟩; refine ⟨_, rfl, ?_⟩) | (go_at_call 45; (with_reducible refine (impl_within.calls (wrap64 (a0_1)) (-2000) 2000 false _ A4.out).mono ?_); rintro e w' ⟨rfl, ⟨nd, rfl⟩⟩))
   go_ret
   exact ⟨zs, zb1 HB.out GE144.out⟩
 subst c5
 have H1 : ((impl_within.f (wrap64 (a0_2)) 1 2000).bind fun t147 => (some t147)) = some r := by rw [if_pos rfl] at H; exact H
 clear H
 have H := H1
 clear H1
 replace H := Option.bind_eq_some_iff.mp H
 obtain ⟨t147, A60, H⟩ := H
 replace H : (some t147) = some r := H
 have A6 := Aside0.mk A60
 clear A60
 obtain rfl := Option.some.inj H
 go_enter Try.func58, Try.ntmps58
 go_wp2_with (first | ((with_reducible refine gate_dst (N := 1) rfl ?_); refine box_event ?hg (N := 1) ?hd (cs := #[.int .i16 a0_0, .int .i16 a0_1, .int .i16 a0_2]) (t := 33) ?hr ?_; (case hd => rfl); (case hg => rfl); (case hr => first | (go_simp; done) | (go_simp; rfl)); intro gb144 hg w7 hbox hb; refine up4 (below_step (zb HB.out) hb) (hbox) ((by rw [hg]; exact (below_size (zb HB.out)) : w.heap.size ≤ gb144)) ((by rw [hg]; exact (below_size (zb HB.out)) : w.heap.size ≤ gb144)) ?_; clear HB; intro HB BK144 GW144 GE144; clear hb hbox hg; have hcz8_0 : w7.cell? ⟨gb144, 0, none⟩ = some (.int .i16 a0_0) := (blk_cell BK144.out 0).trans rfl; have hcz8_1 : w7.cell? ⟨gb144, 1, none⟩ = some (.int .i16 a0_1) := (blk_cell BK144.out 1).trans rfl; have hcz8_2 : w7.cell? ⟨gb144, 2, none⟩ = some (.int .i16 a0_2) := (blk_cell BK144.out 2).trans rfl; have hfz8_0 := blk_frozen BK144.out 0; have hfz8_1 := blk_frozen BK144.out 1; have hfz8_2 := blk_frozen BK144.out 2) | ((with_reducible refine gate_callee (f := 45) rfl ?_); refine goesL_ (some 6) rfl rfl Try.func45 (by kernel_rfl) rfl #[.int .i64 (wrap64 (a0_0)), .int .i64 1, .int .i64 5000] rfl zr ?_; (with_reducible refine (impl_within.calls (wrap64 (a0_0)) 1 5000 true _ A2.out).mono ?_); rintro e w' ⟨rfl, ⟨nd, rfl⟩⟩; refine ⟨_, rfl, ?_⟩) | (go_at_call 45; (with_reducible refine (impl_within.calls (wrap64 (a0_1)) (-2000) 2000 true _ A4.out).mono ?_); rintro e w' ⟨rfl, ⟨nd, rfl⟩⟩) | (go_at_call 45; (with_reducible refine (impl_within.calls (wrap64 (a0_2)) 1 2000 t147 _ A6.out).mono ?_); rintro e w' ⟨rfl, ⟨nd, rfl⟩⟩))
 go_ret
 exact ⟨zs, zb1 HB.out GE144.out⟩

/-! ### impl_yarnsCode: function 36 -/
/-- The first place, counted from i on, at which p holds, or -1. -/
def idxFrom {α : Type} (p : α → Bool) : List α → Int → Int
  | [], _ => -1
  | x :: l, i => if p x = true then i else idxFrom p l (i + 1)
theorem idxFrom_any {α : Type} (p : α → Bool) : ∀ (l : List α) (i : Int), 0 ≤ i → decide (0 ≤ idxFrom p l i) = l.any p
  | [], i, h => by simp [idxFrom]
  | x :: l, i, h => by
    cases hx : p x with
    | true => simp [idxFrom, hx, h]
    | false => simp [idxFrom, hx, idxFrom_any p l (i + 1) (by omega)]
set_option maxHeartbeats 2000000 in
theorem IFy (p : S33 → Bool) (g : Nat) (lb : Array Value) (eg : ∀ args w, (callFunc g args).run Try.prog w = .ok (.enter g args) w) (A0 : Option Addr) (c0 : Nat) (l0 : List S33) (w : World)
    (hr0 : Kd.C k33 w A0 l0.length l0) (hlen : (l0.length : Int) ≤ 4611686018427387904)
    (hp : ∀ (x : S33) (W : World), Below w.heap.size w W → Calls Try.prog g (#[.agg #[.int .i16 x.f0, .int .i16 x.f1, .int .i16 x.f2]] ++ lb) W fun e w' => e = .returned (.bool (p x)) ∧ Below W.heap.size W w') :
    Calls Try.prog 70 #[.slice A0 l0.length c0, .func (.func g) #[] lb] w fun e w' => e = .returned (.int .i64 (idxFrom p l0 0)) ∧ Below w.heap.size w w' := by
  have HR0 := Aside0.mk hr0
  have HP := Aside0.mk hp
  clear hr0 hp
  go_enter Try.func70, Try.ntmps70
  go_wp2
  go_loopg [5, 8] l0.length (fun gg _ v8 wr => ∃ kk : Nat, kk ≤ l0.length ∧ l0.length - kk ≤ gg ∧ v8 = .int .i64 kk ∧ Aside0 (Below w.heap.size w wr) ∧ Aside0 (idxFrom p l0 0 = idxFrom p (l0.drop kk) kk))
  case atStart => exact ⟨0, Nat.zero_le _, by omega, rfl, ⟨Below.refl _ w⟩, ⟨by simp⟩⟩
  case round =>
    obtain ⟨kk, hkk, hg, rfl, BW, A⟩ := hrel
    by_cases hlt : kk < l0.length
    · have hltz : (kk : Int) < (l0.length : Int) := by omega
      obtain ⟨ad, e, hx0, hx1, hx2⟩ := at_T33 HR0.out (kk : Int) (by omega) (by omega)
      cases e
      simp only [Int.toNat_natCast] at hx0 hx1 hx2
      replace hx0 := zc BW.out hx0
      replace hx1 := zc BW.out hx1
      replace hx2 := zc BW.out hx2
      have hcall := HP.out (rd_T33 l0 (kk : Int)) wr BW.out
      have hrd : rd_T33 l0 (kk : Int) = l0[kk] := by unfold rd_T33; simp [List.getD, hlt]
      have hdr : l0.drop kk = l0[kk] :: l0.drop (kk + 1) := List.drop_eq_getElem_cons hlt
      generalize hy : rd_T33 l0 (kk : Int) = y at hx0 hx1 hx2 hcall hrd
      have E := Aside0.mk hrd
      have D := Aside0.mk hdr
      clear hrd hdr hy
      cases hq : p y with
      | true =>
        rw [hq] at hcall
        have Q := Aside0.mk hq
        clear hq
        go_wp2_with (go_at_fn g; refine hcall.mono ?_; rintro e w' ⟨rfl, hb'⟩)
        go_ret
        refine ⟨?_, BW.out.trans (hb'.mono BW.out.size)⟩
        rw [A.out, D.out, ← E.out]; simp [idxFrom, Q.out]
      | false =>
        rw [hq] at hcall
        have Q := Aside0.mk hq
        clear hq
        go_wp2_with (go_at_fn g; refine hcall.mono ?_; rintro e w' ⟨rfl, hb'⟩)
        go_roundg (l0.length - (kk + 1))
        case measure => omega
        case rel => exact ⟨kk + 1, by omega, by omega, by go_num, ⟨BW.out.trans (hb'.mono BW.out.size)⟩, ⟨by rw [A.out, D.out, ← E.out]; simp [idxFrom, Q.out]⟩⟩
    · have hltz : ¬ (kk : Int) < (l0.length : Int) := by omega
      have : kk = l0.length := by omega
      subst this
      go_wp2
      go_ret
      refine ⟨?_, BW.out⟩
      rw [A.out]; simp [idxFrom]
theorem egIFy : ∀ args w, (callFunc 70 args).run Try.prog w = .ok (.enter 70 args) w := enters_of Try.func70 (by kernel_rfl) rfl
theorem egACy : ∀ args w, (callFunc 66 args).run Try.prog w = .ok (.enter 66 args) w := enters_of Try.func66 (by kernel_rfl) rfl
set_option maxHeartbeats 1000000 in
theorem CFy (p : S33 → Bool) (g : Nat) (lb : Array Value) (eg : ∀ args w, (callFunc g args).run Try.prog w = .ok (.enter g args) w) (A0 : Option Addr) (c0 : Nat) (l0 : List S33) (w : World)
    (hr0 : Kd.C k33 w A0 l0.length l0) (hlen : (l0.length : Int) ≤ 4611686018427387904)
    (hp : ∀ (x : S33) (W : World), Below w.heap.size w W → Calls Try.prog g (#[.agg #[.int .i16 x.f0, .int .i16 x.f1, .int .i16 x.f2]] ++ lb) W fun e w' => e = .returned (.bool (p x)) ∧ Below W.heap.size W w') :
    Calls Try.prog 65 #[.slice A0 l0.length c0, .func (.func g) #[] lb] w fun e w' => e = .returned (.bool (l0.any p)) ∧ Below w.heap.size w w' := by
  have hc := IFy p g lb eg A0 c0 l0 w hr0 hlen hp
  have HA := Aside0.mk (idxFrom_any p l0 0 (by omega))
  clear hr0 hp
  generalize idxFrom p l0 0 = r at hc HA
  generalize l0.any p = s at HA
  go_enter Try.func65, Try.ntmps65
  go_wp2_with (go_at_call 70; refine hc.mono ?_; rintro e w' ⟨rfl, hb'⟩)
  go_ret
  exact ⟨by rw [← HA.out]; rfl, hb'⟩
set_option maxHeartbeats 1000000 in
theorem ACy (q : S33 → Bool) (g : Nat) (lb : Array Value) (eg : ∀ args w, (callFunc g args).run Try.prog w = .ok (.enter g args) w) (B : Nat) (w : World) (hB : B < w.heap.size) (hcell : w.cell? ⟨B, 0, none⟩ = some (.func (.func g) #[] lb))
    (hq : ∀ (x : S33) (W : World), Below w.heap.size w W → Calls Try.prog g (#[.agg #[.int .i16 x.f0, .int .i16 x.f1, .int .i16 x.f2]] ++ lb) W fun e w' => e = .returned (.bool (q x)) ∧ Below W.heap.size W w')
    (x : S33) (W : World) (hb : Below w.heap.size w W) :
    Calls Try.prog 66 (#[.agg #[.int .i16 x.f0, .int .i16 x.f1, .int .i16 x.f2]] ++ #[.pointer (some ⟨B, 0, none⟩)]) W fun e w' => e = .returned (.bool (!q x)) ∧ Below W.heap.size W w' := by
  have hc : W.cell? ⟨B, 0, none⟩ = some (.func (.func g) #[] lb) := (hb.cell (p := ⟨B, 0, none⟩) hB).trans hcell
  have hBW : B < W.heap.size := Nat.lt_of_lt_of_le hB hb.size
  have hne : B ≠ W.heap.size := by omega
  have hcall := hq x (W.alloc (.cells #[.int .i16 x.f0, .int .i16 x.f1, .int .i16 x.f2] 33)) (hb.alloc hb.size _)
  clear hq
  have hb1 : Below W.heap.size W (W.alloc (.cells #[.int .i16 x.f0, .int .i16 x.f1, .int .i16 x.f2] 33)) := (Below.refl _ W).alloc (Nat.le_refl _) _
  generalize q x = r at hcall
  show Calls Try.prog 66 #[.agg #[.int .i16 x.f0, .int .i16 x.f1, .int .i16 x.f2], .pointer (some ⟨B, 0, none⟩)] W _
  go_enter Try.func66, Try.ntmps66
  go_wp2_with (go_at_fn g; refine hcall.mono ?_; rintro e w' ⟨rfl, hb'⟩)
  go_ret
  exact ⟨rfl, hb1.trans (hb'.mono (by simp))⟩
set_option maxHeartbeats 1000000 in
theorem AAy (q : S33 → Bool) (g : Nat) (lb : Array Value) (eg : ∀ args w, (callFunc g args).run Try.prog w = .ok (.enter g args) w) (A0 : Option Addr) (c0 : Nat) (l0 : List S33) (w : World)
    (hr0 : Kd.C k33 w A0 l0.length l0) (hlen : (l0.length : Int) ≤ 4611686018427387904)
    (hq : ∀ (x : S33) (W : World), Below w.heap.size w W → Calls Try.prog g (#[.agg #[.int .i16 x.f0, .int .i16 x.f1, .int .i16 x.f2]] ++ lb) W fun e w' => e = .returned (.bool (q x)) ∧ Below W.heap.size W w') :
    Calls Try.prog 57 #[.slice A0 l0.length c0, .func (.func g) #[] lb] w fun e w' => e = .returned (.bool (l0.all q)) ∧ Below w.heap.size w w' := by
  have hb1 : Below w.heap.size w (w.alloc (.cells #[.func (.func g) #[] lb] 88)) := (Below.refl _ w).alloc (Nat.le_refl _) _
  have hc := CFy (fun x => !q x) 66 #[.pointer (some ⟨w.heap.size, 0, none⟩)] egACy A0 c0 l0 (w.alloc (.cells #[.func (.func g) #[] lb] 88)) (Kd.C_alloc hr0 _) hlen
    (fun x W hW => ACy q g lb eg w.heap.size _ (by simp) (by simp) (fun x W hW => hq x W (hb1.trans (hW.mono (by simp)))) x W hW)
  have HA := Aside0.mk (show (!l0.any fun x => !q x) = l0.all q by rw [List.all_eq_not_any_not])
  clear hr0 hq
  generalize l0.any (fun x => !q x) = r at hc HA
  go_enter Try.func57, Try.ntmps57
  go_wp2_with (go_at_call 65; refine hc.mono ?_; rintro e w' ⟨rfl, hb'⟩)
  go_ret
  exact ⟨by rw [← HA.out]; rfl, hb1.trans (hb'.mono (by simp))⟩
def vYarn (x : S33) : Bool := (impl_ValidYarn.f x.f0 x.f1 x.f2).getD false
theorem vYarn_f (x : S33) : impl_ValidYarn.f x.f0 x.f1 x.f2 = some (vYarn x) := by
  unfold vYarn impl_ValidYarn.f impl_within.f
  by_cases h1 : 1 ≤ wrap64 x.f0 <;> by_cases h2 : -2000 ≤ wrap64 x.f1 <;> by_cases h3 : 1 ≤ wrap64 x.f2 <;> simp [h1, h2, h3] <;> split <;> (try rfl) <;> split <;> rfl
theorem vYarn_calls (x : S33) (W : World) : Calls Try.prog 58 (#[.agg #[.int .i16 x.f0, .int .i16 x.f1, .int .i16 x.f2]] ++ #[]) W fun e w' => e = .returned (.bool (vYarn x)) ∧ Below W.heap.size W w' :=
  impl_ValidYarn.calls x.f0 x.f1 x.f2 (vYarn x) W (vYarn_f x)
theorem egVy : ∀ args w, (callFunc 58 args).run Try.prog w = .ok (.enter 58 args) w := enters_of Try.func58 (by kernel_rfl) rfl
def impl_yarnsCode.f (l0 : List S33) (a1 : Bool) : Option Int := if (l0.length : Int) ≤ 4611686018427387904 then (some (if l0.all vYarn = true then (if a1 = true then (if (l0.length : Int) > 10 then 3 else 0) else 2) else 1)) else none
set_option maxHeartbeats 1000000 in
theorem impl_yarnsCode.calls (A0 : Option Addr) (c0 : Nat) (l0 : List S33) (a1 : Bool) (r : Int) (w : World) (hr0 : Kd.C k33 w A0 l0.length l0) (hc0 : l0.length ≤ c0) (h : impl_yarnsCode.f l0 a1 = some r) :
    Calls Try.prog 36 #[.slice A0 l0.length c0, .bool a1] w fun e w' => e = .returned (.int .i64 r) ∧ Below w.heap.size w w' := by
 unfold impl_yarnsCode.f at h
 by_cases hlen : (l0.length : Int) ≤ 4611686018427387904
 rotate_left
 · rw [if_neg hlen] at h
   cases h
 rw [if_pos hlen] at h
 have hq := fun (W : World) => AAy vYarn 58 #[] egVy A0 c0 l0 w hr0 hlen (fun x W _ => vYarn_calls x W)
 have hcall := hq w
 clear hq hr0
 have hr := Aside0.mk (Option.some.inj h)
 clear h
 generalize l0.all vYarn = b at hcall hr
 cases b with
 | false =>
  go_enter Try.func36, Try.ntmps36
  go_wp2_with (go_at_call 57; refine hcall.mono ?_; rintro e w' ⟨rfl, hb'⟩)
  go_ret
  exact ⟨by rw [← hr.out]; rfl, hb'⟩
 | true =>
  cases a1 with
  | false =>
   go_enter Try.func36, Try.ntmps36
   go_wp2_with (go_at_call 57; refine hcall.mono ?_; rintro e w' ⟨rfl, hb'⟩)
   go_ret
   exact ⟨by rw [← hr.out]; rfl, hb'⟩
  | true =>
   by_cases hl : (l0.length : Int) > 10
   · have hl2 : decide (10 < l0.length) = true := decide_eq_true (by omega)
     have hl1 : decide ((10 : Int) < (l0.length : Int)) = true := decide_eq_true (by omega)
     have hl' := Aside0.mk hl
     clear hl
     go_enter Try.func36, Try.ntmps36
     go_wp2_with (go_at_call 57; refine hcall.mono ?_; rintro e w' ⟨rfl, hb'⟩)
     go_ret
     exact ⟨by rw [← hr.out]; simp [hl'.out], hb'⟩
   have hl2 : decide (10 < l0.length) = false := decide_eq_false (by omega)
   have hl1 : decide ((10 : Int) < (l0.length : Int)) = false := decide_eq_false (by omega)
   have hl' := Aside0.mk hl
   clear hl
   go_enter Try.func36, Try.ntmps36
   go_wp2_with (go_at_call 57; refine hcall.mono ?_; rintro e w' ⟨rfl, hb'⟩)
   go_ret
   exact ⟨by rw [← hr.out]; simp [hl'.out], hb'⟩

/-! ### impl_Yarn_46: function 46 -/
def impl_Yarn_46.f (l0 : List (S33)) : Option (Int) := some (l0.length : Int)
set_option maxHeartbeats 8000000 in
set_option maxRecDepth 100000 in
theorem impl_Yarn_46.calls (A0 : Option Addr) (c0 : Nat) (l0 : List (S33)) (r : Int) (w : World) (hr0 : Kd.C k33 w A0 l0.length l0) (hc0 : l0.length ≤ c0) (h : impl_Yarn_46.f l0 = some r) :
    Calls Try.prog 46 #[.slice A0 l0.length c0] w fun e w' => e = .returned (.int .i64 r) ∧ Drawn0 w w' := by
 have HR0 := Aside0.mk hr0
 have HC0 := Aside0.mk hc0
 clear hr0 hc0
 have H : (some (l0.length : Int)) = some r := h
 clear h
 obtain rfl := Option.some.inj H
 go_enter Try.func46, Try.ntmps46
 go_wp2
 go_ret
 exact ⟨zx, by repeat (first | exact Drawn0.refl _ | apply Drawn0.step)⟩

/-! ### impl_isTurns: function 54 -/
def impl_isTurns.f (a0 : Int) : Option (Bool) := (impl_within.f a0 (-2000) 2000).bind fun t148 => (some t148)
set_option maxHeartbeats 8000000 in
set_option maxRecDepth 100000 in
theorem impl_isTurns.calls (a0 : Int) (r : Bool) (w : World) (h : impl_isTurns.f a0 = some r) :
    Calls Try.prog 54 #[.int .i64 a0] w fun e w' => e = .returned (.bool r) ∧ Drawn0 w w' := by
 have H : ((impl_within.f a0 (-2000) 2000).bind fun t148 => (some t148)) = some r := h
 clear h
 replace H := Option.bind_eq_some_iff.mp H
 obtain ⟨t148, A20, H⟩ := H
 replace H : (some t148) = some r := H
 have A2 := Aside0.mk A20
 clear A20
 obtain rfl := Option.some.inj H
 go_enter Try.func54, Try.ntmps54
 go_wp2_with (first | ((with_reducible refine gate_callee (f := 45) rfl ?_); refine goesL_ (some 4) rfl rfl Try.func45 (by kernel_rfl) rfl #[.int .i64 a0, .int .i64 (-2000), .int .i64 2000] rfl zr ?_; (with_reducible refine (impl_within.calls a0 (-2000) 2000 t148 _ A2.out).mono ?_); rintro e w' ⟨rfl, ⟨nd, rfl⟩⟩; refine ⟨_, rfl, ?_⟩))
 go_ret
 exact ⟨zx, by repeat (first | exact Drawn0.refl _ | apply Drawn0.step)⟩

end Go.Proofs.Ythfanjdbemoaaaa.XFnPlies
