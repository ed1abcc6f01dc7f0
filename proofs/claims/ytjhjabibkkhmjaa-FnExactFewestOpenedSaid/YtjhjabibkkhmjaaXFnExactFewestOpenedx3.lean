/- The functions that the law FnExactFewestOpened reaches: each as a Lean function, and that its call does what that function says; no conditions. -/
import Derived.Test.YtjhjabibkkhmjaaXFnExactFewestOpenedx0
import Derived.Test.YtjhjabibkkhmjaaXFnExactFewestOpenedx2
namespace Go.Proofs.Ytjhjabibkkhmjaa.XFnExactFewestOpened
open Go.RowKit Go.Proofs.YtjhjabibkkhmjaaW.PrintWords Go.Proofs.YtjhjabibkkhmjaaW.PrintLast Go.Proofs.YtjhjabibkkhmjaaW.PrintMore
attribute [local go_sem] max2_int min2_int max_two min_two max_three min_three max_four min_four   -- for this text's walks alone
set_option linter.unusedVariables false
set_option linter.unusedSimpArgs false

/-- A state of type 124 at block g of W; what its slices lead to came in by w0. -/
def IsS124 (w0 W : World) (g : Nat) (f0 : List Int) (f1 : Int) (f2 : Int) (f3 : Int) (f4 : Int) (f5 : Int) (f6 : Int) (f7 : Int) (f8 : Int) (f9 : Int) (f10 : Int) (f11 : Int) (f12 : List Int) (f13 : Int) (f14 : Bool) : Prop := ∃ A0 c0, ∃ A12 c12, W.heap[g]? = some (.cells #[.slice A0 f0.length c0, .int .i64 f1, .int .i64 f2, .int .i64 f3, .int .i64 f4, .int .i64 f5, .int .i64 f6, .int .i64 f7, .int .i64 f8, .int .i64 f9, .int .i64 f10, .int .i64 f11, .slice A12 f12.length c12, .int .i64 f13, .bool f14] 124 (0, 0)) ∧ w0.heap.size ≤ g ∧ Kd.C (Kd.int .i64) w0 A0 f0.length f0 ∧ Kd.C (Kd.int .i64) w0 A12 f12.length f12
theorem IsS124.grown {w0 W : World} {g : Nat} {f0 : List Int} {f1 : Int} {f2 : Int} {f3 : Int} {f4 : Int} {f5 : Int} {f6 : Int} {f7 : Int} {f8 : Int} {f9 : Int} {f10 : Int} {f11 : Int} {f12 : List Int} {f13 : Int} {f14 : Bool} {W1 : World} {row : Option Nat} (h : IsS124 w0 W g f0 f1 f2 f3 f4 f5 f6 f7 f8 f9 f10 f11 f12 f13 f14) (hw : W.grownBy W1 row) (hne : some g ≠ row) : IsS124 w0 W1 g f0 f1 f2 f3 f4 f5 f6 f7 f8 f9 f10 f11 f12 f13 f14 := by
  obtain ⟨A0, c0, A12, c12, hb, hg, hr0, hr12⟩ := h
  exact ⟨A0, c0, A12, c12, blk_grown hb hw hne, hg, hr0, hr12⟩
theorem IsS124.own_neN {w0 W : World} {g : Nat} {f0 : List Int} {f1 : Int} {f2 : Int} {f3 : Int} {f4 : Int} {f5 : Int} {f6 : Int} {f7 : Int} {f8 : Int} {f9 : Int} {f10 : Int} {f11 : Int} {f12 : List Int} {f13 : Int} {f14 : Bool} {α : Type} {d : Kd α} {e : Nat} {base : Nat} {ok : Nat → Prop} {v : Value} {xs : List α} (h : IsS124 w0 W g f0 f1 f2 f3 f4 f5 f6 f7 f8 f9 f10 f11 f12 f13 f14) (ho : Kd.N d e W base ok v xs) (ht : e ≠ 124) : some g ≠ v.ownBlock := by
  obtain ⟨A0, c0, A12, c12, hb, hg, hr0, hr12⟩ := h
  exact Kd.N_ne ho hb ht
theorem IsS124.fresh {w0 W : World} {g : Nat} {f0 : List Int} {f1 : Int} {f2 : Int} {f3 : Int} {f4 : Int} {f5 : Int} {f6 : Int} {f7 : Int} {f8 : Int} {f9 : Int} {f10 : Int} {f11 : Int} {f12 : List Int} {f13 : Int} {f14 : Bool} (h : IsS124 w0 W g f0 f1 f2 f3 f4 f5 f6 f7 f8 f9 f10 f11 f12 f13 f14) : ∀ k, W.heap.size ≤ k → k ≠ g := by
  obtain ⟨A0, c0, A12, c12, hb, hg, hr0, hr12⟩ := h
  exact Kd.freshB hb
theorem IsS124.kept {w0 W : World} {g : Nat} {f0 : List Int} {f1 : Int} {f2 : Int} {f3 : Int} {f4 : Int} {f5 : Int} {f6 : Int} {f7 : Int} {f8 : Int} {f9 : Int} {f10 : Int} {f11 : Int} {f12 : List Int} {f13 : Int} {f14 : Bool} {W1 : World} {S : Nat → Prop} (h : IsS124 w0 W g f0 f1 f2 f3 f4 f5 f6 f7 f8 f9 f10 f11 f12 f13 f14) (hk : Kept W W1 S) (hne : ¬ S g) : IsS124 w0 W1 g f0 f1 f2 f3 f4 f5 f6 f7 f8 f9 f10 f11 f12 f13 f14 := by
  obtain ⟨A0, c0, A12, c12, hb, hg, hr0, hr12⟩ := h
  exact ⟨A0, c0, A12, c12, blk_kept hb hk hne, hg, hr0, hr12⟩
theorem IsS124.below {w0 W : World} {g : Nat} {f0 : List Int} {f1 : Int} {f2 : Int} {f3 : Int} {f4 : Int} {f5 : Int} {f6 : Int} {f7 : Int} {f8 : Int} {f9 : Int} {f10 : Int} {f11 : Int} {f12 : List Int} {f13 : Int} {f14 : Bool} {W1 : World} (h : IsS124 w0 W g f0 f1 f2 f3 f4 f5 f6 f7 f8 f9 f10 f11 f12 f13 f14) (hw : Below W.heap.size W W1) : IsS124 w0 W1 g f0 f1 f2 f3 f4 f5 f6 f7 f8 f9 f10 f11 f12 f13 f14 := h.grown (grown_of_below hw none) (by simp)
theorem IsS124.alloc {w0 W : World} {g : Nat} {f0 : List Int} {f1 : Int} {f2 : Int} {f3 : Int} {f4 : Int} {f5 : Int} {f6 : Int} {f7 : Int} {f8 : Int} {f9 : Int} {f10 : Int} {f11 : Int} {f12 : List Int} {f13 : Int} {f14 : Bool} (h : IsS124 w0 W g f0 f1 f2 f3 f4 f5 f6 f7 f8 f9 f10 f11 f12 f13 f14) (o : Obj) : IsS124 w0 (W.alloc o) g f0 f1 f2 f3 f4 f5 f6 f7 f8 f9 f10 f11 f12 f13 f14 := h.below (below_alloc (Below.refl _ _) o)
theorem IsS124.drewN {w0 W : World} {g : Nat} {f0 : List Int} {f1 : Int} {f2 : Int} {f3 : Int} {f4 : Int} {f5 : Int} {f6 : Int} {f7 : Int} {f8 : Int} {f9 : Int} {f10 : Int} {f11 : Int} {f12 : List Int} {f13 : Int} {f14 : Bool} (h : IsS124 w0 W g f0 f1 f2 f3 f4 f5 f6 f7 f8 f9 f10 f11 f12 f13 f14) (m : Nat) : IsS124 w0 (W.drewN m) g f0 f1 f2 f3 f4 f5 f6 f7 f8 f9 f10 f11 f12 f13 f14 := h
theorem IsS124.drew {w0 W : World} {g : Nat} {f0 : List Int} {f1 : Int} {f2 : Int} {f3 : Int} {f4 : Int} {f5 : Int} {f6 : Int} {f7 : Int} {f8 : Int} {f9 : Int} {f10 : Int} {f11 : Int} {f12 : List Int} {f13 : Int} {f14 : Bool} (h : IsS124 w0 W g f0 f1 f2 f3 f4 f5 f6 f7 f8 f9 f10 f11 f12 f13 f14) : IsS124 w0 W.drew g f0 f1 f2 f3 f4 f5 f6 f7 f8 f9 f10 f11 f12 f13 f14 := h
theorem IsS124.at_ {w0 W : World} {g : Nat} {f0 : List Int} {f1 : Int} {f2 : Int} {f3 : Int} {f4 : Int} {f5 : Int} {f6 : Int} {f7 : Int} {f8 : Int} {f9 : Int} {f10 : Int} {f11 : Int} {f12 : List Int} {f13 : Int} {f14 : Bool} {w' : World} {m : Nat} (hq : W.drewN m = w') (h : IsS124 w0 W g f0 f1 f2 f3 f4 f5 f6 f7 f8 f9 f10 f11 f12 f13 f14) : IsS124 w0 w' g f0 f1 f2 f3 f4 f5 f6 f7 f8 f9 f10 f11 f12 f13 f14 := by subst hq; exact IsS124.drewN h m
theorem IsS124.apart {w0 W : World} {g : Nat} {f0 : List Int} {f1 : Int} {f2 : Int} {f3 : Int} {f4 : Int} {f5 : Int} {f6 : Int} {f7 : Int} {f8 : Int} {f9 : Int} {f10 : Int} {f11 : Int} {f12 : List Int} {f13 : Int} {f14 : Bool} {α : Type} {d : Kd α} {e : Nat} {base : Nat} {ok : Nat → Prop} {v : Value} {xs : List α} (h : IsS124 w0 W g f0 f1 f2 f3 f4 f5 f6 f7 f8 f9 f10 f11 f12 f13 f14) (ho : d.R e W base ok v xs) (ht : ∀ q, q ∈ e :: d.E → q ≠ 124) : d.R e W base (fun k => ok k ∧ k ≠ g) v xs := by
  obtain ⟨A0, c0, A12, c12, hb, hg, hr0, hr12⟩ := h
  exact Kd.R_types ho hb ht
theorem IsS124.own_ne {w0 W : World} {g : Nat} {f0 : List Int} {f1 : Int} {f2 : Int} {f3 : Int} {f4 : Int} {f5 : Int} {f6 : Int} {f7 : Int} {f8 : Int} {f9 : Int} {f10 : Int} {f11 : Int} {f12 : List Int} {f13 : Int} {f14 : Bool} {α : Type} {d : Kd α} {e : Nat} {base : Nat} {ok : Nat → Prop} {v : Value} {xs : List α} (h : IsS124 w0 W g f0 f1 f2 f3 f4 f5 f6 f7 f8 f9 f10 f11 f12 f13 f14) (ho : d.R e W base ok v xs) (ht : e ≠ 124) : some g ≠ v.ownBlock := by
  obtain ⟨A0, c0, A12, c12, hb, hg, hr0, hr12⟩ := h
  exact Kd.R_ne ho hb ht
theorem IsS124.apartQ {w0 W : World} {g : Nat} {f0 : List Int} {f1 : Int} {f2 : Int} {f3 : Int} {f4 : Int} {f5 : Int} {f6 : Int} {f7 : Int} {f8 : Int} {f9 : Int} {f10 : Int} {f11 : Int} {f12 : List Int} {f13 : Int} {f14 : Bool} {α : Type} {d : Kd α} {e : Nat} {base : Nat} {ok : Nat → Prop} {v : Value} {xs : List α} (h : IsS124 w0 W g f0 f1 f2 f3 f4 f5 f6 f7 f8 f9 f10 f11 f12 f13 f14) (ho : d.Q e W base ok v xs) (ht : ∀ q, q ∈ e :: d.E → q ≠ 124) : d.Q e W base (fun k => ok k ∧ k ≠ g) v xs := by
  obtain ⟨A0, c0, A12, c12, hb, hg, hr0, hr12⟩ := h
  exact Kd.Q_types ho hb ht
theorem IsS124.own_neQ {w0 W : World} {g : Nat} {f0 : List Int} {f1 : Int} {f2 : Int} {f3 : Int} {f4 : Int} {f5 : Int} {f6 : Int} {f7 : Int} {f8 : Int} {f9 : Int} {f10 : Int} {f11 : Int} {f12 : List Int} {f13 : Int} {f14 : Bool} {α : Type} {d : Kd α} {e : Nat} {base : Nat} {ok : Nat → Prop} {v : Value} {xs : List α} (h : IsS124 w0 W g f0 f1 f2 f3 f4 f5 f6 f7 f8 f9 f10 f11 f12 f13 f14) (ho : d.Q e W base ok v xs) (ht : e ≠ 124) : some g ≠ v.ownBlock := by
  obtain ⟨A0, c0, A12, c12, hb, hg, hr0, hr12⟩ := h
  exact Kd.Q_ne ho hb ht
theorem IsS124.apartS {w0 W : World} {g : Nat} {f0 : List Int} {f1 : Int} {f2 : Int} {f3 : Int} {f4 : Int} {f5 : Int} {f6 : Int} {f7 : Int} {f8 : Int} {f9 : Int} {f10 : Int} {f11 : Int} {f12 : List Int} {f13 : Int} {f14 : Bool} {α : Type} {d : Kd α} {e : Nat} {base : Nat} {ok : Nat → Prop} {v : Value} {xs : List α} (h : IsS124 w0 W g f0 f1 f2 f3 f4 f5 f6 f7 f8 f9 f10 f11 f12 f13 f14) (ho : d.S e W base ok v xs) (ht : ∀ q, q ∈ e :: d.E → q ≠ 124) : d.S e W base (fun k => ok k ∧ k ≠ g) v xs := by
  obtain ⟨A0, c0, A12, c12, hb, hg, hr0, hr12⟩ := h
  exact Kd.S_types ho hb ht
theorem IsS124.own_neS {w0 W : World} {g : Nat} {f0 : List Int} {f1 : Int} {f2 : Int} {f3 : Int} {f4 : Int} {f5 : Int} {f6 : Int} {f7 : Int} {f8 : Int} {f9 : Int} {f10 : Int} {f11 : Int} {f12 : List Int} {f13 : Int} {f14 : Bool} {α : Type} {d : Kd α} {e : Nat} {base : Nat} {ok : Nat → Prop} {v : Value} {xs : List α} (h : IsS124 w0 W g f0 f1 f2 f3 f4 f5 f6 f7 f8 f9 f10 f11 f12 f13 f14) (ho : d.S e W base ok v xs) (ht : e ≠ 124) : some g ≠ v.ownBlock := by
  obtain ⟨A0, c0, A12, c12, hb, hg, hr0, hr12⟩ := h
  exact Kd.S_ne ho hb ht
theorem IsS124.lt {w0 W : World} {g : Nat} {f0 : List Int} {f1 : Int} {f2 : Int} {f3 : Int} {f4 : Int} {f5 : Int} {f6 : Int} {f7 : Int} {f8 : Int} {f9 : Int} {f10 : Int} {f11 : Int} {f12 : List Int} {f13 : Int} {f14 : Bool} (h : IsS124 w0 W g f0 f1 f2 f3 f4 f5 f6 f7 f8 f9 f10 f11 f12 f13 f14) : g < W.heap.size := by
  obtain ⟨A0, c0, A12, c12, hb, hg, hr0, hr12⟩ := h
  exact blk_lt hb
theorem IsS124.ge {w0 W : World} {g : Nat} {f0 : List Int} {f1 : Int} {f2 : Int} {f3 : Int} {f4 : Int} {f5 : Int} {f6 : Int} {f7 : Int} {f8 : Int} {f9 : Int} {f10 : Int} {f11 : Int} {f12 : List Int} {f13 : Int} {f14 : Bool} (h : IsS124 w0 W g f0 f1 f2 f3 f4 f5 f6 f7 f8 f9 f10 f11 f12 f13 f14) : w0.heap.size ≤ g := by
  obtain ⟨A0, c0, A12, c12, hb, hg, hr0, hr12⟩ := h
  exact hg
theorem IsS124.ne_blk {w0 W : World} {g : Nat} {f0 : List Int} {f1 : Int} {f2 : Int} {f3 : Int} {f4 : Int} {f5 : Int} {f6 : Int} {f7 : Int} {f8 : Int} {f9 : Int} {f10 : Int} {f11 : Int} {f12 : List Int} {f13 : Int} {f14 : Bool} {a : Nat} {cs : Array Value} {t : TypeId} {fr : Nat × Nat} (h : IsS124 w0 W g f0 f1 f2 f3 f4 f5 f6 f7 f8 f9 f10 f11 f12 f13 f14) (hb2 : W.heap[a]? = some (.cells cs t fr)) (ht : t ≠ 124) : g ≠ a := by
  obtain ⟨A0, c0, A12, c12, hb, hg, hr0, hr12⟩ := h
  rintro rfl
  rw [hb] at hb2
  injection hb2 with hb2
  injection hb2 with _ ht2
  exact ht ht2.symm
theorem IsS124.far {w0 W : World} {g : Nat} {f0 : List Int} {f1 : Int} {f2 : Int} {f3 : Int} {f4 : Int} {f5 : Int} {f6 : Int} {f7 : Int} {f8 : Int} {f9 : Int} {f10 : Int} {f11 : Int} {f12 : List Int} {f13 : Int} {f14 : Bool} {p : Addr} (h : IsS124 w0 W g f0 f1 f2 f3 f4 f5 f6 f7 f8 f9 f10 f11 f12 f13 f14) (hne : g ≠ p.block) (u : Value) : IsS124 w0 (W.setCell p u) g f0 f1 f2 f3 f4 f5 f6 f7 f8 f9 f10 f11 f12 f13 f14 := by
  obtain ⟨A0, c0, A12, c12, hb, hg, hr0, hr12⟩ := h
  exact ⟨A0, c0, A12, c12, blk_far hb hne u, hg, hr0, hr12⟩
theorem cellS124_0 {W : World} {g : Nat} {A0 : Option Addr} {c0 : Nat} {A12 : Option Addr} {c12 : Nat} {f0 : List Int} {f1 : Int} {f2 : Int} {f3 : Int} {f4 : Int} {f5 : Int} {f6 : Int} {f7 : Int} {f8 : Int} {f9 : Int} {f10 : Int} {f11 : Int} {f12 : List Int} {f13 : Int} {f14 : Bool} (h : W.heap[g]? = some (.cells #[.slice A0 f0.length c0, .int .i64 f1, .int .i64 f2, .int .i64 f3, .int .i64 f4, .int .i64 f5, .int .i64 f6, .int .i64 f7, .int .i64 f8, .int .i64 f9, .int .i64 f10, .int .i64 f11, .slice A12 f12.length c12, .int .i64 f13, .bool f14] 124 (0, 0))) : W.cell? ⟨g, 0, none⟩ = some (.slice A0 f0.length c0) := (blk_cell h 0).trans rfl
theorem cellS124_1 {W : World} {g : Nat} {A0 : Option Addr} {c0 : Nat} {A12 : Option Addr} {c12 : Nat} {f0 : List Int} {f1 : Int} {f2 : Int} {f3 : Int} {f4 : Int} {f5 : Int} {f6 : Int} {f7 : Int} {f8 : Int} {f9 : Int} {f10 : Int} {f11 : Int} {f12 : List Int} {f13 : Int} {f14 : Bool} (h : W.heap[g]? = some (.cells #[.slice A0 f0.length c0, .int .i64 f1, .int .i64 f2, .int .i64 f3, .int .i64 f4, .int .i64 f5, .int .i64 f6, .int .i64 f7, .int .i64 f8, .int .i64 f9, .int .i64 f10, .int .i64 f11, .slice A12 f12.length c12, .int .i64 f13, .bool f14] 124 (0, 0))) : W.cell? ⟨g, 1, none⟩ = some (.int .i64 f1) := (blk_cell h 1).trans rfl
theorem IsS124.set_1 {w0 W : World} {g : Nat} {f0 : List Int} {f1 : Int} {f2 : Int} {f3 : Int} {f4 : Int} {f5 : Int} {f6 : Int} {f7 : Int} {f8 : Int} {f9 : Int} {f10 : Int} {f11 : Int} {f12 : List Int} {f13 : Int} {f14 : Bool} (h : IsS124 w0 W g f0 f1 f2 f3 f4 f5 f6 f7 f8 f9 f10 f11 f12 f13 f14) (x : Int) : IsS124 w0 (W.setCell ⟨g, 1, none⟩ (.int .i64 x)) g f0 x f2 f3 f4 f5 f6 f7 f8 f9 f10 f11 f12 f13 f14 := by
  obtain ⟨A0, c0, A12, c12, hb, hg, hr0, hr12⟩ := h
  exact ⟨A0, c0, A12, c12, by simpa using blk_set hb 1 (.int .i64 x), hg, hr0, hr12⟩
theorem cellS124_2 {W : World} {g : Nat} {A0 : Option Addr} {c0 : Nat} {A12 : Option Addr} {c12 : Nat} {f0 : List Int} {f1 : Int} {f2 : Int} {f3 : Int} {f4 : Int} {f5 : Int} {f6 : Int} {f7 : Int} {f8 : Int} {f9 : Int} {f10 : Int} {f11 : Int} {f12 : List Int} {f13 : Int} {f14 : Bool} (h : W.heap[g]? = some (.cells #[.slice A0 f0.length c0, .int .i64 f1, .int .i64 f2, .int .i64 f3, .int .i64 f4, .int .i64 f5, .int .i64 f6, .int .i64 f7, .int .i64 f8, .int .i64 f9, .int .i64 f10, .int .i64 f11, .slice A12 f12.length c12, .int .i64 f13, .bool f14] 124 (0, 0))) : W.cell? ⟨g, 2, none⟩ = some (.int .i64 f2) := (blk_cell h 2).trans rfl
theorem IsS124.set_2 {w0 W : World} {g : Nat} {f0 : List Int} {f1 : Int} {f2 : Int} {f3 : Int} {f4 : Int} {f5 : Int} {f6 : Int} {f7 : Int} {f8 : Int} {f9 : Int} {f10 : Int} {f11 : Int} {f12 : List Int} {f13 : Int} {f14 : Bool} (h : IsS124 w0 W g f0 f1 f2 f3 f4 f5 f6 f7 f8 f9 f10 f11 f12 f13 f14) (x : Int) : IsS124 w0 (W.setCell ⟨g, 2, none⟩ (.int .i64 x)) g f0 f1 x f3 f4 f5 f6 f7 f8 f9 f10 f11 f12 f13 f14 := by
  obtain ⟨A0, c0, A12, c12, hb, hg, hr0, hr12⟩ := h
  exact ⟨A0, c0, A12, c12, by simpa using blk_set hb 2 (.int .i64 x), hg, hr0, hr12⟩
theorem cellS124_3 {W : World} {g : Nat} {A0 : Option Addr} {c0 : Nat} {A12 : Option Addr} {c12 : Nat} {f0 : List Int} {f1 : Int} {f2 : Int} {f3 : Int} {f4 : Int} {f5 : Int} {f6 : Int} {f7 : Int} {f8 : Int} {f9 : Int} {f10 : Int} {f11 : Int} {f12 : List Int} {f13 : Int} {f14 : Bool} (h : W.heap[g]? = some (.cells #[.slice A0 f0.length c0, .int .i64 f1, .int .i64 f2, .int .i64 f3, .int .i64 f4, .int .i64 f5, .int .i64 f6, .int .i64 f7, .int .i64 f8, .int .i64 f9, .int .i64 f10, .int .i64 f11, .slice A12 f12.length c12, .int .i64 f13, .bool f14] 124 (0, 0))) : W.cell? ⟨g, 3, none⟩ = some (.int .i64 f3) := (blk_cell h 3).trans rfl
theorem IsS124.set_3 {w0 W : World} {g : Nat} {f0 : List Int} {f1 : Int} {f2 : Int} {f3 : Int} {f4 : Int} {f5 : Int} {f6 : Int} {f7 : Int} {f8 : Int} {f9 : Int} {f10 : Int} {f11 : Int} {f12 : List Int} {f13 : Int} {f14 : Bool} (h : IsS124 w0 W g f0 f1 f2 f3 f4 f5 f6 f7 f8 f9 f10 f11 f12 f13 f14) (x : Int) : IsS124 w0 (W.setCell ⟨g, 3, none⟩ (.int .i64 x)) g f0 f1 f2 x f4 f5 f6 f7 f8 f9 f10 f11 f12 f13 f14 := by
  obtain ⟨A0, c0, A12, c12, hb, hg, hr0, hr12⟩ := h
  exact ⟨A0, c0, A12, c12, by simpa using blk_set hb 3 (.int .i64 x), hg, hr0, hr12⟩
theorem cellS124_4 {W : World} {g : Nat} {A0 : Option Addr} {c0 : Nat} {A12 : Option Addr} {c12 : Nat} {f0 : List Int} {f1 : Int} {f2 : Int} {f3 : Int} {f4 : Int} {f5 : Int} {f6 : Int} {f7 : Int} {f8 : Int} {f9 : Int} {f10 : Int} {f11 : Int} {f12 : List Int} {f13 : Int} {f14 : Bool} (h : W.heap[g]? = some (.cells #[.slice A0 f0.length c0, .int .i64 f1, .int .i64 f2, .int .i64 f3, .int .i64 f4, .int .i64 f5, .int .i64 f6, .int .i64 f7, .int .i64 f8, .int .i64 f9, .int .i64 f10, .int .i64 f11, .slice A12 f12.length c12, .int .i64 f13, .bool f14] 124 (0, 0))) : W.cell? ⟨g, 4, none⟩ = some (.int .i64 f4) := (blk_cell h 4).trans rfl
theorem IsS124.set_4 {w0 W : World} {g : Nat} {f0 : List Int} {f1 : Int} {f2 : Int} {f3 : Int} {f4 : Int} {f5 : Int} {f6 : Int} {f7 : Int} {f8 : Int} {f9 : Int} {f10 : Int} {f11 : Int} {f12 : List Int} {f13 : Int} {f14 : Bool} (h : IsS124 w0 W g f0 f1 f2 f3 f4 f5 f6 f7 f8 f9 f10 f11 f12 f13 f14) (x : Int) : IsS124 w0 (W.setCell ⟨g, 4, none⟩ (.int .i64 x)) g f0 f1 f2 f3 x f5 f6 f7 f8 f9 f10 f11 f12 f13 f14 := by
  obtain ⟨A0, c0, A12, c12, hb, hg, hr0, hr12⟩ := h
  exact ⟨A0, c0, A12, c12, by simpa using blk_set hb 4 (.int .i64 x), hg, hr0, hr12⟩
theorem cellS124_5 {W : World} {g : Nat} {A0 : Option Addr} {c0 : Nat} {A12 : Option Addr} {c12 : Nat} {f0 : List Int} {f1 : Int} {f2 : Int} {f3 : Int} {f4 : Int} {f5 : Int} {f6 : Int} {f7 : Int} {f8 : Int} {f9 : Int} {f10 : Int} {f11 : Int} {f12 : List Int} {f13 : Int} {f14 : Bool} (h : W.heap[g]? = some (.cells #[.slice A0 f0.length c0, .int .i64 f1, .int .i64 f2, .int .i64 f3, .int .i64 f4, .int .i64 f5, .int .i64 f6, .int .i64 f7, .int .i64 f8, .int .i64 f9, .int .i64 f10, .int .i64 f11, .slice A12 f12.length c12, .int .i64 f13, .bool f14] 124 (0, 0))) : W.cell? ⟨g, 5, none⟩ = some (.int .i64 f5) := (blk_cell h 5).trans rfl
theorem IsS124.set_5 {w0 W : World} {g : Nat} {f0 : List Int} {f1 : Int} {f2 : Int} {f3 : Int} {f4 : Int} {f5 : Int} {f6 : Int} {f7 : Int} {f8 : Int} {f9 : Int} {f10 : Int} {f11 : Int} {f12 : List Int} {f13 : Int} {f14 : Bool} (h : IsS124 w0 W g f0 f1 f2 f3 f4 f5 f6 f7 f8 f9 f10 f11 f12 f13 f14) (x : Int) : IsS124 w0 (W.setCell ⟨g, 5, none⟩ (.int .i64 x)) g f0 f1 f2 f3 f4 x f6 f7 f8 f9 f10 f11 f12 f13 f14 := by
  obtain ⟨A0, c0, A12, c12, hb, hg, hr0, hr12⟩ := h
  exact ⟨A0, c0, A12, c12, by simpa using blk_set hb 5 (.int .i64 x), hg, hr0, hr12⟩
theorem cellS124_6 {W : World} {g : Nat} {A0 : Option Addr} {c0 : Nat} {A12 : Option Addr} {c12 : Nat} {f0 : List Int} {f1 : Int} {f2 : Int} {f3 : Int} {f4 : Int} {f5 : Int} {f6 : Int} {f7 : Int} {f8 : Int} {f9 : Int} {f10 : Int} {f11 : Int} {f12 : List Int} {f13 : Int} {f14 : Bool} (h : W.heap[g]? = some (.cells #[.slice A0 f0.length c0, .int .i64 f1, .int .i64 f2, .int .i64 f3, .int .i64 f4, .int .i64 f5, .int .i64 f6, .int .i64 f7, .int .i64 f8, .int .i64 f9, .int .i64 f10, .int .i64 f11, .slice A12 f12.length c12, .int .i64 f13, .bool f14] 124 (0, 0))) : W.cell? ⟨g, 6, none⟩ = some (.int .i64 f6) := (blk_cell h 6).trans rfl
theorem IsS124.set_6 {w0 W : World} {g : Nat} {f0 : List Int} {f1 : Int} {f2 : Int} {f3 : Int} {f4 : Int} {f5 : Int} {f6 : Int} {f7 : Int} {f8 : Int} {f9 : Int} {f10 : Int} {f11 : Int} {f12 : List Int} {f13 : Int} {f14 : Bool} (h : IsS124 w0 W g f0 f1 f2 f3 f4 f5 f6 f7 f8 f9 f10 f11 f12 f13 f14) (x : Int) : IsS124 w0 (W.setCell ⟨g, 6, none⟩ (.int .i64 x)) g f0 f1 f2 f3 f4 f5 x f7 f8 f9 f10 f11 f12 f13 f14 := by
  obtain ⟨A0, c0, A12, c12, hb, hg, hr0, hr12⟩ := h
  exact ⟨A0, c0, A12, c12, by simpa using blk_set hb 6 (.int .i64 x), hg, hr0, hr12⟩
theorem cellS124_7 {W : World} {g : Nat} {A0 : Option Addr} {c0 : Nat} {A12 : Option Addr} {c12 : Nat} {f0 : List Int} {f1 : Int} {f2 : Int} {f3 : Int} {f4 : Int} {f5 : Int} {f6 : Int} {f7 : Int} {f8 : Int} {f9 : Int} {f10 : Int} {f11 : Int} {f12 : List Int} {f13 : Int} {f14 : Bool} (h : W.heap[g]? = some (.cells #[.slice A0 f0.length c0, .int .i64 f1, .int .i64 f2, .int .i64 f3, .int .i64 f4, .int .i64 f5, .int .i64 f6, .int .i64 f7, .int .i64 f8, .int .i64 f9, .int .i64 f10, .int .i64 f11, .slice A12 f12.length c12, .int .i64 f13, .bool f14] 124 (0, 0))) : W.cell? ⟨g, 7, none⟩ = some (.int .i64 f7) := (blk_cell h 7).trans rfl
theorem IsS124.set_7 {w0 W : World} {g : Nat} {f0 : List Int} {f1 : Int} {f2 : Int} {f3 : Int} {f4 : Int} {f5 : Int} {f6 : Int} {f7 : Int} {f8 : Int} {f9 : Int} {f10 : Int} {f11 : Int} {f12 : List Int} {f13 : Int} {f14 : Bool} (h : IsS124 w0 W g f0 f1 f2 f3 f4 f5 f6 f7 f8 f9 f10 f11 f12 f13 f14) (x : Int) : IsS124 w0 (W.setCell ⟨g, 7, none⟩ (.int .i64 x)) g f0 f1 f2 f3 f4 f5 f6 x f8 f9 f10 f11 f12 f13 f14 := by
  obtain ⟨A0, c0, A12, c12, hb, hg, hr0, hr12⟩ := h
  exact ⟨A0, c0, A12, c12, by simpa using blk_set hb 7 (.int .i64 x), hg, hr0, hr12⟩
theorem cellS124_8 {W : World} {g : Nat} {A0 : Option Addr} {c0 : Nat} {A12 : Option Addr} {c12 : Nat} {f0 : List Int} {f1 : Int} {f2 : Int} {f3 : Int} {f4 : Int} {f5 : Int} {f6 : Int} {f7 : Int} {f8 : Int} {f9 : Int} {f10 : Int} {f11 : Int} {f12 : List Int} {f13 : Int} {f14 : Bool} (h : W.heap[g]? = some (.cells #[.slice A0 f0.length c0, .int .i64 f1, .int .i64 f2, .int .i64 f3, .int .i64 f4, .int .i64 f5, .int .i64 f6, .int .i64 f7, .int .i64 f8, .int .i64 f9, .int .i64 f10, .int .i64 f11, .slice A12 f12.length c12, .int .i64 f13, .bool f14] 124 (0, 0))) : W.cell? ⟨g, 8, none⟩ = some (.int .i64 f8) := (blk_cell h 8).trans rfl
theorem IsS124.set_8 {w0 W : World} {g : Nat} {f0 : List Int} {f1 : Int} {f2 : Int} {f3 : Int} {f4 : Int} {f5 : Int} {f6 : Int} {f7 : Int} {f8 : Int} {f9 : Int} {f10 : Int} {f11 : Int} {f12 : List Int} {f13 : Int} {f14 : Bool} (h : IsS124 w0 W g f0 f1 f2 f3 f4 f5 f6 f7 f8 f9 f10 f11 f12 f13 f14) (x : Int) : IsS124 w0 (W.setCell ⟨g, 8, none⟩ (.int .i64 x)) g f0 f1 f2 f3 f4 f5 f6 f7 x f9 f10 f11 f12 f13 f14 := by
  obtain ⟨A0, c0, A12, c12, hb, hg, hr0, hr12⟩ := h
  exact ⟨A0, c0, A12, c12, by simpa using blk_set hb 8 (.int .i64 x), hg, hr0, hr12⟩
theorem cellS124_9 {W : World} {g : Nat} {A0 : Option Addr} {c0 : Nat} {A12 : Option Addr} {c12 : Nat} {f0 : List Int} {f1 : Int} {f2 : Int} {f3 : Int} {f4 : Int} {f5 : Int} {f6 : Int} {f7 : Int} {f8 : Int} {f9 : Int} {f10 : Int} {f11 : Int} {f12 : List Int} {f13 : Int} {f14 : Bool} (h : W.heap[g]? = some (.cells #[.slice A0 f0.length c0, .int .i64 f1, .int .i64 f2, .int .i64 f3, .int .i64 f4, .int .i64 f5, .int .i64 f6, .int .i64 f7, .int .i64 f8, .int .i64 f9, .int .i64 f10, .int .i64 f11, .slice A12 f12.length c12, .int .i64 f13, .bool f14] 124 (0, 0))) : W.cell? ⟨g, 9, none⟩ = some (.int .i64 f9) := (blk_cell h 9).trans rfl
theorem IsS124.set_9 {w0 W : World} {g : Nat} {f0 : List Int} {f1 : Int} {f2 : Int} {f3 : Int} {f4 : Int} {f5 : Int} {f6 : Int} {f7 : Int} {f8 : Int} {f9 : Int} {f10 : Int} {f11 : Int} {f12 : List Int} {f13 : Int} {f14 : Bool} (h : IsS124 w0 W g f0 f1 f2 f3 f4 f5 f6 f7 f8 f9 f10 f11 f12 f13 f14) (x : Int) : IsS124 w0 (W.setCell ⟨g, 9, none⟩ (.int .i64 x)) g f0 f1 f2 f3 f4 f5 f6 f7 f8 x f10 f11 f12 f13 f14 := by
  obtain ⟨A0, c0, A12, c12, hb, hg, hr0, hr12⟩ := h
  exact ⟨A0, c0, A12, c12, by simpa using blk_set hb 9 (.int .i64 x), hg, hr0, hr12⟩
theorem cellS124_10 {W : World} {g : Nat} {A0 : Option Addr} {c0 : Nat} {A12 : Option Addr} {c12 : Nat} {f0 : List Int} {f1 : Int} {f2 : Int} {f3 : Int} {f4 : Int} {f5 : Int} {f6 : Int} {f7 : Int} {f8 : Int} {f9 : Int} {f10 : Int} {f11 : Int} {f12 : List Int} {f13 : Int} {f14 : Bool} (h : W.heap[g]? = some (.cells #[.slice A0 f0.length c0, .int .i64 f1, .int .i64 f2, .int .i64 f3, .int .i64 f4, .int .i64 f5, .int .i64 f6, .int .i64 f7, .int .i64 f8, .int .i64 f9, .int .i64 f10, .int .i64 f11, .slice A12 f12.length c12, .int .i64 f13, .bool f14] 124 (0, 0))) : W.cell? ⟨g, 10, none⟩ = some (.int .i64 f10) := (blk_cell h 10).trans rfl
theorem IsS124.set_10 {w0 W : World} {g : Nat} {f0 : List Int} {f1 : Int} {f2 : Int} {f3 : Int} {f4 : Int} {f5 : Int} {f6 : Int} {f7 : Int} {f8 : Int} {f9 : Int} {f10 : Int} {f11 : Int} {f12 : List Int} {f13 : Int} {f14 : Bool} (h : IsS124 w0 W g f0 f1 f2 f3 f4 f5 f6 f7 f8 f9 f10 f11 f12 f13 f14) (x : Int) : IsS124 w0 (W.setCell ⟨g, 10, none⟩ (.int .i64 x)) g f0 f1 f2 f3 f4 f5 f6 f7 f8 f9 x f11 f12 f13 f14 := by
  obtain ⟨A0, c0, A12, c12, hb, hg, hr0, hr12⟩ := h
  exact ⟨A0, c0, A12, c12, by simpa using blk_set hb 10 (.int .i64 x), hg, hr0, hr12⟩
theorem cellS124_11 {W : World} {g : Nat} {A0 : Option Addr} {c0 : Nat} {A12 : Option Addr} {c12 : Nat} {f0 : List Int} {f1 : Int} {f2 : Int} {f3 : Int} {f4 : Int} {f5 : Int} {f6 : Int} {f7 : Int} {f8 : Int} {f9 : Int} {f10 : Int} {f11 : Int} {f12 : List Int} {f13 : Int} {f14 : Bool} (h : W.heap[g]? = some (.cells #[.slice A0 f0.length c0, .int .i64 f1, .int .i64 f2, .int .i64 f3, .int .i64 f4, .int .i64 f5, .int .i64 f6, .int .i64 f7, .int .i64 f8, .int .i64 f9, .int .i64 f10, .int .i64 f11, .slice A12 f12.length c12, .int .i64 f13, .bool f14] 124 (0, 0))) : W.cell? ⟨g, 11, none⟩ = some (.int .i64 f11) := (blk_cell h 11).trans rfl
theorem IsS124.set_11 {w0 W : World} {g : Nat} {f0 : List Int} {f1 : Int} {f2 : Int} {f3 : Int} {f4 : Int} {f5 : Int} {f6 : Int} {f7 : Int} {f8 : Int} {f9 : Int} {f10 : Int} {f11 : Int} {f12 : List Int} {f13 : Int} {f14 : Bool} (h : IsS124 w0 W g f0 f1 f2 f3 f4 f5 f6 f7 f8 f9 f10 f11 f12 f13 f14) (x : Int) : IsS124 w0 (W.setCell ⟨g, 11, none⟩ (.int .i64 x)) g f0 f1 f2 f3 f4 f5 f6 f7 f8 f9 f10 x f12 f13 f14 := by
  obtain ⟨A0, c0, A12, c12, hb, hg, hr0, hr12⟩ := h
  exact ⟨A0, c0, A12, c12, by simpa using blk_set hb 11 (.int .i64 x), hg, hr0, hr12⟩
theorem cellS124_12 {W : World} {g : Nat} {A0 : Option Addr} {c0 : Nat} {A12 : Option Addr} {c12 : Nat} {f0 : List Int} {f1 : Int} {f2 : Int} {f3 : Int} {f4 : Int} {f5 : Int} {f6 : Int} {f7 : Int} {f8 : Int} {f9 : Int} {f10 : Int} {f11 : Int} {f12 : List Int} {f13 : Int} {f14 : Bool} (h : W.heap[g]? = some (.cells #[.slice A0 f0.length c0, .int .i64 f1, .int .i64 f2, .int .i64 f3, .int .i64 f4, .int .i64 f5, .int .i64 f6, .int .i64 f7, .int .i64 f8, .int .i64 f9, .int .i64 f10, .int .i64 f11, .slice A12 f12.length c12, .int .i64 f13, .bool f14] 124 (0, 0))) : W.cell? ⟨g, 12, none⟩ = some (.slice A12 f12.length c12) := (blk_cell h 12).trans rfl
theorem cellS124_13 {W : World} {g : Nat} {A0 : Option Addr} {c0 : Nat} {A12 : Option Addr} {c12 : Nat} {f0 : List Int} {f1 : Int} {f2 : Int} {f3 : Int} {f4 : Int} {f5 : Int} {f6 : Int} {f7 : Int} {f8 : Int} {f9 : Int} {f10 : Int} {f11 : Int} {f12 : List Int} {f13 : Int} {f14 : Bool} (h : W.heap[g]? = some (.cells #[.slice A0 f0.length c0, .int .i64 f1, .int .i64 f2, .int .i64 f3, .int .i64 f4, .int .i64 f5, .int .i64 f6, .int .i64 f7, .int .i64 f8, .int .i64 f9, .int .i64 f10, .int .i64 f11, .slice A12 f12.length c12, .int .i64 f13, .bool f14] 124 (0, 0))) : W.cell? ⟨g, 13, none⟩ = some (.int .i64 f13) := (blk_cell h 13).trans rfl
theorem IsS124.set_13 {w0 W : World} {g : Nat} {f0 : List Int} {f1 : Int} {f2 : Int} {f3 : Int} {f4 : Int} {f5 : Int} {f6 : Int} {f7 : Int} {f8 : Int} {f9 : Int} {f10 : Int} {f11 : Int} {f12 : List Int} {f13 : Int} {f14 : Bool} (h : IsS124 w0 W g f0 f1 f2 f3 f4 f5 f6 f7 f8 f9 f10 f11 f12 f13 f14) (x : Int) : IsS124 w0 (W.setCell ⟨g, 13, none⟩ (.int .i64 x)) g f0 f1 f2 f3 f4 f5 f6 f7 f8 f9 f10 f11 f12 x f14 := by
  obtain ⟨A0, c0, A12, c12, hb, hg, hr0, hr12⟩ := h
  exact ⟨A0, c0, A12, c12, by simpa using blk_set hb 13 (.int .i64 x), hg, hr0, hr12⟩
theorem cellS124_14 {W : World} {g : Nat} {A0 : Option Addr} {c0 : Nat} {A12 : Option Addr} {c12 : Nat} {f0 : List Int} {f1 : Int} {f2 : Int} {f3 : Int} {f4 : Int} {f5 : Int} {f6 : Int} {f7 : Int} {f8 : Int} {f9 : Int} {f10 : Int} {f11 : Int} {f12 : List Int} {f13 : Int} {f14 : Bool} (h : W.heap[g]? = some (.cells #[.slice A0 f0.length c0, .int .i64 f1, .int .i64 f2, .int .i64 f3, .int .i64 f4, .int .i64 f5, .int .i64 f6, .int .i64 f7, .int .i64 f8, .int .i64 f9, .int .i64 f10, .int .i64 f11, .slice A12 f12.length c12, .int .i64 f13, .bool f14] 124 (0, 0))) : W.cell? ⟨g, 14, none⟩ = some (.bool f14) := (blk_cell h 14).trans rfl
theorem IsS124.set_14 {w0 W : World} {g : Nat} {f0 : List Int} {f1 : Int} {f2 : Int} {f3 : Int} {f4 : Int} {f5 : Int} {f6 : Int} {f7 : Int} {f8 : Int} {f9 : Int} {f10 : Int} {f11 : Int} {f12 : List Int} {f13 : Int} {f14 : Bool} (h : IsS124 w0 W g f0 f1 f2 f3 f4 f5 f6 f7 f8 f9 f10 f11 f12 f13 f14) (x : Bool) : IsS124 w0 (W.setCell ⟨g, 14, none⟩ (.bool x)) g f0 f1 f2 f3 f4 f5 f6 f7 f8 f9 f10 f11 f12 f13 x := by
  obtain ⟨A0, c0, A12, c12, hb, hg, hr0, hr12⟩ := h
  exact ⟨A0, c0, A12, c12, by simpa using blk_set hb 14 (.bool x), hg, hr0, hr12⟩
theorem IsS124.new (w0 W : World) (A0 : Option Addr) (c0 : Nat) (A12 : Option Addr) (c12 : Nat) (f0 : List Int) (f1 : Int) (f2 : Int) (f3 : Int) (f4 : Int) (f5 : Int) (f6 : Int) (f7 : Int) (f8 : Int) (f9 : Int) (f10 : Int) (f11 : Int) (f12 : List Int) (f13 : Int) (f14 : Bool) (hB : Below w0.heap.size w0 W) (hr0 : Kd.C (Kd.int .i64) w0 A0 f0.length f0) (hr12 : Kd.C (Kd.int .i64) w0 A12 f12.length f12) : IsS124 w0 (W.alloc (.cells #[.slice A0 f0.length c0, .int .i64 f1, .int .i64 f2, .int .i64 f3, .int .i64 f4, .int .i64 f5, .int .i64 f6, .int .i64 f7, .int .i64 f8, .int .i64 f9, .int .i64 f10, .int .i64 f11, .slice A12 f12.length c12, .int .i64 f13, .bool f14] 124)) W.heap.size f0 f1 f2 f3 f4 f5 f6 f7 f8 f9 f10 f11 f12 f13 f14 := ⟨A0, c0, A12, c12, by simpa using heap_alloc_new W _, hB.size, hr0, hr12⟩

/-! ### spec_l03Open_from: function 96 -/
mutual
/-- Goes on with the next need: best, least, found behind it. -/
def spec_l03Open_from.f (D : List Int) (n : Int) : Nat → List Int → List Int → Int → List Int → Int → Bool → Option (List Int × Int × Bool)
  | 0, _, _, _, _, _, _ => none
  | k + 1, N, S, op, B, m, fd =>
    if fd = true ∧ op ≥ m then some (B, m, fd)
    else if N.length = D.length then (if N.length ≤ 1048576 then some (N, op, true) else none)
    else if N.length < D.length then spec_l03Open_from.l0 D n k N S op 0 B m fd else none
def spec_l03Open_from.l0 (D : List Int) (n : Int) : Nat → List Int → List Int → Int → Int → List Int → Int → Bool → Option (List Int × Int × Bool)
  | 0, _, _, _, _, _, _, _ => none
  | k + 1, N, S, op, x, B, m, fd =>
    if x < n then
      (if 0 ≤ x ∧ x < 10 ∧ N.length ≤ 1048576 then
        (if rd S x < rd D (N.length : Int) then spec_l03Open_from.l0 D n k N S op (wrap64 (x + 1)) B m fd
        else (spec_l00Has.f k N x).bind fun has =>
          (spec_l03Open_from.f D n k (N ++ [x]) (S.set x.toNat (wrap64 (rd S x - rd D (N.length : Int)))) (if has = true then op else wrap64 (op + 1)) B m fd).bind fun r =>
            spec_l03Open_from.l0 D n k N S op (wrap64 (x + 1)) r.1 r.2.1 r.2.2)
      else none)
    else some (B, m, fd)
end
theorem spec_l03Open_from.mono_l (D : List Int) (n : Int) : ∀ k, (∀ N S mo B m fd, LeO (spec_l03Open_from.f D n k N S mo B m fd) (spec_l03Open_from.f D n (k + 1) N S mo B m fd)) ∧ (∀ N S mo x B m fd, LeO (spec_l03Open_from.l0 D n k N S mo x B m fd) (spec_l03Open_from.l0 D n (k + 1) N S mo x B m fd))
  | 0 => ⟨fun _ _ _ _ _ _ r h => by simp [spec_l03Open_from.f] at h, fun _ _ _ _ _ _ _ r h => by simp [spec_l03Open_from.l0] at h⟩
  | k + 1 => by
    obtain ⟨ih1, ih2⟩ := spec_l03Open_from.mono_l D n k
    constructor
    · intro N S mo B m fd
      rw [spec_l03Open_from.f, spec_l03Open_from.f]
      repeat' first
        | exact ih2 _ _ _ _ _ _ _
        | (with_reducible exact LeO.refl _)
        | (with_reducible refine LeO.ite ?_ ?_)
        | (with_reducible refine LeO.bind ?_ (fun _ => ?_))
    · intro N S mo x B m fd
      rw [spec_l03Open_from.l0, spec_l03Open_from.l0]
      repeat' first
        | exact ih1 _ _ _ _ _ _
        | exact ih2 _ _ _ _ _ _ _
        | exact spec_l00Has.mono _ _ _
        | (with_reducible exact LeO.refl _)
        | (with_reducible refine LeO.ite ?_ ?_)
        | (with_reducible refine LeO.bind ?_ (fun _ => ?_))
theorem spec_l03Open_from.info : (Try.prog.info? 2).map (fun i => (i.zero, i.size, i.bytes)) = some (some (.int .i64 0), 1, 8) := by kernel_rfl
/-- The search's variable. -/
structure spec_l03Open_from.Inv (w W : World) (gw : Nat) (A0 : Option Addr) (c0 : Nat) (D : List Int) (n : Int) (q0 q1 q2 q3 q4 q5 q6 q7 q8 q9 : Int) (B : List Int) (m : Int) (fd : Bool) (vB : Value) : Prop where
  b : Below w.heap.size w W
  g : w.heap.size ≤ gw
  h : W.heap[gw]? = some (.cells #[.slice A0 D.length c0, .int .i64 q0, .int .i64 q1, .int .i64 q2, .int .i64 q3, .int .i64 q4, .int .i64 q5, .int .i64 q6, .int .i64 q7, .int .i64 q8, .int .i64 q9, .int .i64 n, vB, .int .i64 m, .bool fd] 124 (0, 0))
  rb : Kd.R (Kd.int .i64) 2 W w.heap.size (fun _ => True) vB B
theorem spec_l03Open_from.Inv.next {w W : World} {gw : Nat} {A0 : Option Addr} {c0 : Nat} {D : List Int} {n : Int} {q0 q1 q2 q3 q4 q5 q6 q7 q8 q9 : Int} {B : List Int} {m : Int} {fd : Bool} {vB : Value} {W' : World} (h : spec_l03Open_from.Inv w W gw A0 c0 D n q0 q1 q2 q3 q4 q5 q6 q7 q8 q9 B m fd vB) (hb : Below W.heap.size W W') : spec_l03Open_from.Inv w W' gw A0 c0 D n q0 q1 q2 q3 q4 q5 q6 q7 q8 q9 B m fd vB :=
  ⟨below_then h.b h.b.size hb, h.g, blk_below h.h hb, Kd.R_below h.rb hb⟩
theorem spec_l03Open_from.Inv.drew {w W : World} {gw : Nat} {A0 : Option Addr} {c0 : Nat} {D : List Int} {n : Int} {q0 q1 q2 q3 q4 q5 q6 q7 q8 q9 : Int} {B : List Int} {m : Int} {fd : Bool} {vB : Value} (h : spec_l03Open_from.Inv w W gw A0 c0 D n q0 q1 q2 q3 q4 q5 q6 q7 q8 q9 B m fd vB) (k : Nat) : spec_l03Open_from.Inv w (W.drewN k) gw A0 c0 D n q0 q1 q2 q3 q4 q5 q6 q7 q8 q9 B m fd vB := h.next (pw_below_drewN (Below.refl _ _) k)
/-- A row of whole numbers that is read lies as it lay. -/
theorem spec_l03Open_from.keepC {W W' : World} {g : Nat} {A : Option Addr} {n : Nat} {xs : List Int} (hk : KeepBut W W' g none) (h : Kd.C (Kd.int .i64) W A n xs) (hne : ∀ ad, A = some ad → ad.block ≠ g) : Kd.C (Kd.int .i64) W' A n xs := by
  obtain ⟨h1, h2, h3⟩ := h
  refine ⟨h1, h2, fun hn => ?_⟩
  obtain ⟨ad, e, hc⟩ := h3 hn
  refine ⟨ad, e, fun j p hj => ?_⟩
  obtain ⟨c, a, b, d⟩ := hc j p hj
  exact ⟨c, a, b, fun i u hi => keep_cell hk (d i u hi) (by have q := hne ad e; unfold Addr.add; split <;> exact q)⟩
theorem spec_l03Open_from.keepA {w : World} {o : Obj} {a : Addr} {v : Value} (h : w.cell? a = some v) : (w.alloc o).cell? a = some v :=
  (((Below.refl w.heap.size w).alloc (Nat.le_refl _) o).cell (World.block_lt_of_cell? w a h)).trans h
theorem spec_l03Open_from.keepD {w : World} {a : Addr} {v : Value} (h : w.cell? a = some v) : w.drew.cell? a = some v := h
theorem spec_l03Open_from.keepN {W W1 W' : World} {g : Nat} {A : Option Addr} {n : Nat} {xs : List Int} (h : Kd.C (Kd.int .i64) W A n xs) (hb : Below W.heap.size W W1) (hk : KeepBut W1 W' g none) (hg : W.heap.size ≤ g) : Kd.C (Kd.int .i64) W' A n xs := by
  obtain ⟨h1, h2, h3⟩ := h
  refine ⟨h1, h2, fun hn => ?_⟩
  obtain ⟨ad, e, hc⟩ := h3 hn
  refine ⟨ad, e, fun j p hj => ?_⟩
  obtain ⟨c, a, b, d⟩ := hc j p hj
  refine ⟨c, a, b, fun i u hi => ?_⟩
  have hlt := World.block_lt_of_cell? W _ (d i u hi)
  exact keep_cell hk ((hb.cell hlt).trans (d i u hi)) (by omega)
/-- A literal row of whole numbers. -/
theorem spec_l03Open_from.lit {W : World} {base h : Nat} (xs : List Int) (hh : W.heap[h]? = some (.cells (xs.map (Value.int .i64)).toArray 2 (0, 0))) (hb : base ≤ h) (hl : xs.length ≤ 1048576) : Kd.R (Kd.int .i64) 2 W base (fun _ => True) (.slice (some ⟨h, 0, none⟩) xs.length xs.length) xs := by
  refine Kd.R_of_own ⟨?_, .inr ⟨h, xs.length, (xs.map (Value.int .i64)).toArray, ?_, hb, hh, ?_, ?_, ?_, ?_⟩⟩ (fun _ _ => trivial)
  · simp [encs]
  · simp
  · simp
  · simp [maxLen]; omega
  · simp
  · rw [List.take_of_length_le (by simp)]; simp [encs]
theorem spec_l03Open_from.top {w : World} {o : Obj} {g : Nat} (h : g = w.heap.size) : (w.alloc o).heap[g]? = some o := by
  subst h; exact blk_new w o
theorem spec_l03Open_from.app {ops : Array Oper} {o : Oper} {a : Act} {Q : Exit → Act → World → Prop} {Kc : Act → World → Prop} {w0 W : World} (hw : Region.wanted o (yielded ops a.tmps) = true) (s x : Operand) (ho : o.op = .call { callee := .builtin .append, args := #[s, x], argTypes := #[25, 25] }) (v : Value) (xs ys : List Int) (A : Option Addr) (m c : Nat) (hs : a.eval s = v) (hx : a.eval x = .slice A m c)
    (HO : Kd.R (Kd.int .i64) 2 W w0.heap.size (fun _ => True) v xs) (HR : Kd.C (Kd.int .i64) W A m ys) (HB : Below w0.heap.size w0 W) (hl : xs.length + m ≤ 1048600)
    (h : ∀ v1 w1, Kd.R (Kd.int .i64) 2 w1 w0.heap.size (fun _ => True) v1 (xs ++ ys) → Below w0.heap.size w0 w1 → W.grownBy w1 v.ownBlock → Kc (a.put o.dst v1) w1) :
    if Region.wanted o (yielded ops a.tmps) = true then Oper.wp Try.prog o a W Kc Q else Kc (a.put o.dst undef) W := by
  refine Kd.R_append_rows_step (Kd.int .i64) (w0 := w0) w0.heap.size hw s x 25 2 (.int .i64 0) 8 ho Try.underlying25 spec_l03Open_from.info rfl (by decide) (by omega) v xs ys A m c (fun _ => True) (fun _ => False) hs hx HO HR (fun _ _ h => h) (fun _ h => h.elim) (fun _ _ => trivial) HB HB.size (by omega) ?_
  intro v1 w1 ho hb hg hat
  exact h v1 w1 ho hb hg
theorem spec_l03Open_from.keepNN {w : World} {n : Nat} {a : Addr} {v : Value} (h : w.cell? a = some v) : (w.drewN n).cell? a = some v :=
  ((pw_below_drewN (Below.refl w.heap.size w) n).cell (World.block_lt_of_cell? w a h)).trans h
/-- A new best list is stored. -/
theorem spec_l03Open_from.Inv.store {w W : World} {gw : Nat} {A0 : Option Addr} {c0 : Nat} {D : List Int} {n : Int} {q0 q1 q2 q3 q4 q5 q6 q7 q8 q9 : Int} {B : List Int} {m : Int} {fd : Bool} {vB : Value} (h : spec_l03Open_from.Inv w W gw A0 c0 D n q0 q1 q2 q3 q4 q5 q6 q7 q8 q9 B m fd vB) {v2 : Value} {B2 : List Int} (hr : Kd.R (Kd.int .i64) 2 W w.heap.size (fun _ => True) v2 B2) (x : Int) :
    spec_l03Open_from.Inv w (((W.setCell ⟨gw, 12, none⟩ v2).setCell ⟨gw, 13, none⟩ (.int .i64 x)).setCell ⟨gw, 14, none⟩ (.bool true)) gw A0 c0 D n q0 q1 q2 q3 q4 q5 q6 q7 q8 q9 B2 x true v2 := by
  have mv : ∀ {V : World} {cs : Array Value} (j : Nat) (u : Value), V.heap[gw]? = some (.cells cs 124 (0, 0)) → Kd.R (Kd.int .i64) 2 V w.heap.size (fun _ => True) v2 B2 → Kd.R (Kd.int .i64) 2 (V.setCell ⟨gw, j, none⟩ u) w.heap.size (fun _ => True) v2 B2 := fun j u hb hx => Kd.R_mono (Kd.R_far (p := ⟨gw, j, none⟩) (Kd.R_types hx hb (by decide)) (fun _ hk => hk.2) _) (fun _ _ => trivial)
  have h1 := blk_put (cs' := #[.slice A0 D.length c0, .int .i64 q0, .int .i64 q1, .int .i64 q2, .int .i64 q3, .int .i64 q4, .int .i64 q5, .int .i64 q6, .int .i64 q7, .int .i64 q8, .int .i64 q9, .int .i64 n, v2, .int .i64 m, .bool fd]) h.h 12 v2 rfl
  have h2 := blk_put (cs' := #[.slice A0 D.length c0, .int .i64 q0, .int .i64 q1, .int .i64 q2, .int .i64 q3, .int .i64 q4, .int .i64 q5, .int .i64 q6, .int .i64 q7, .int .i64 q8, .int .i64 q9, .int .i64 n, v2, .int .i64 x, .bool fd]) h1 13 (.int .i64 x) rfl
  have h3 := blk_put (cs' := #[.slice A0 D.length c0, .int .i64 q0, .int .i64 q1, .int .i64 q2, .int .i64 q3, .int .i64 q4, .int .i64 q5, .int .i64 q6, .int .i64 q7, .int .i64 q8, .int .i64 q9, .int .i64 n, v2, .int .i64 x, .bool true]) h2 14 (.bool true) rfl
  exact ⟨below_set (below_set (below_set h.b h.g) h.g) h.g, h.g, h3, mv 14 _ h2 (mv 13 _ h1 (mv 12 _ h.h hr))⟩
theorem spec_l03Open_from.Inv.keep {w W : World} {gw : Nat} {A0 : Option Addr} {c0 : Nat} {D : List Int} {n : Int} {q0 q1 q2 q3 q4 q5 q6 q7 q8 q9 : Int} {B : List Int} {m : Int} {fd : Bool} {vB : Value} {W' : World} {gn : Nat} (h : spec_l03Open_from.Inv w W gw A0 c0 D n q0 q1 q2 q3 q4 q5 q6 q7 q8 q9 B m fd vB) (hk : KeepBut W W' gn none) (hb : Below w.heap.size w W') (hne : gw ≠ gn) (hv : some gn ≠ vB.ownBlock) : spec_l03Open_from.Inv w W' gw A0 c0 D n q0 q1 q2 q3 q4 q5 q6 q7 q8 q9 B m fd vB :=
  ⟨hb, h.g, (hk.2 gw (blk_lt h.h) hne (by simp)).trans h.h, Kd.R_mono (Kd.R_keep (Kd.R_far1 h.rb rfl hv) hk (fun _ hk => hk.2)) (fun _ _ => trivial)⟩
/-- A cell of a box of whole numbers. -/
theorem spec_l03Open_from.cell {W : World} {g : Nat} {S : List Int} {t : TypeId} (h : W.heap[g]? = some (.cells (S.map (Value.int .i64)).toArray t (0, 0))) (x : Int) (h0 : 0 ≤ x) (h1 : x < (S.length : Int)) : W.cell? ⟨g, x.toNat, none⟩ = some (.int .i64 (rd S x)) := by
  have hl : x.toNat < S.length := by omega
  rw [blk_cell h x.toNat]
  unfold rd
  simp [List.getD, hl]
theorem spec_l03Open_from.size10 : (Try.prog.info? 122).map (·.size) = some 10 := by kernel_rfl
theorem spec_l03Open_from.keepRD {w : World} {g : Nat} {cs : List Value} (h : w.rangeAt g 0 cs) : w.drew.rangeAt g 0 cs := h
theorem spec_l03Open_from.keepRN {w : World} {n g : Nat} {cs : List Value} (h : w.rangeAt g 0 cs) : (w.drewN n).rangeAt g 0 cs := fun j v hv => spec_l03Open_from.keepNN (h j v hv)
theorem spec_l03Open_from.keepRT {w w1 : World} {g : Nat} {cs : List Value} (hk : ∀ j : Nat, w1.cell? ⟨g, j, none⟩ = w.cell? ⟨g, j, none⟩) (h : w.rangeAt g 0 cs) : w1.rangeAt g 0 cs := fun j v hv => (hk _).trans (h j v hv)
theorem spec_l03Open_from.keepRB {w w1 : World} {g : Nat} {cs : List Value} (hb : Below w.heap.size w w1) (hg : g < w.heap.size) (h : w.rangeAt g 0 cs) : w1.rangeAt g 0 cs := fun j v hv => (hb.cell hg).trans (h j v hv)
/-- Ten cells are told. -/
theorem spec_l03Open_from.ten {W : World} {gn : Nat} (h : W.heap[gn]? = some (.cells #[.int .i64 0, .int .i64 0, .int .i64 0, .int .i64 0, .int .i64 0, .int .i64 0, .int .i64 0, .int .i64 0, .int .i64 0, .int .i64 0] 122 (0, 0))) (s0 s1 s2 s3 s4 s5 s6 s7 s8 s9 : Int) :
    ((((((((((W.setCell ⟨gn, 0, none⟩ (.int .i64 s0)).setCell ⟨gn, 1, none⟩ (.int .i64 s1)).setCell ⟨gn, 2, none⟩ (.int .i64 s2)).setCell ⟨gn, 3, none⟩ (.int .i64 s3)).setCell ⟨gn, 4, none⟩ (.int .i64 s4)).setCell ⟨gn, 5, none⟩ (.int .i64 s5)).setCell ⟨gn, 6, none⟩ (.int .i64 s6)).setCell ⟨gn, 7, none⟩ (.int .i64 s7)).setCell ⟨gn, 8, none⟩ (.int .i64 s8)).setCell ⟨gn, 9, none⟩ (.int .i64 s9)).heap[gn]? = some (.cells (([s0, s1, s2, s3, s4, s5, s6, s7, s8, s9] : List Int).map (Value.int .i64)).toArray 122 (0, 0)) ∧ KeepBut W ((((((((((W.setCell ⟨gn, 0, none⟩ (.int .i64 s0)).setCell ⟨gn, 1, none⟩ (.int .i64 s1)).setCell ⟨gn, 2, none⟩ (.int .i64 s2)).setCell ⟨gn, 3, none⟩ (.int .i64 s3)).setCell ⟨gn, 4, none⟩ (.int .i64 s4)).setCell ⟨gn, 5, none⟩ (.int .i64 s5)).setCell ⟨gn, 6, none⟩ (.int .i64 s6)).setCell ⟨gn, 7, none⟩ (.int .i64 s7)).setCell ⟨gn, 8, none⟩ (.int .i64 s8)).setCell ⟨gn, 9, none⟩ (.int .i64 s9)) gn none ∧ ∀ w : World, Below w.heap.size w W → w.heap.size ≤ gn → Below w.heap.size w ((((((((((W.setCell ⟨gn, 0, none⟩ (.int .i64 s0)).setCell ⟨gn, 1, none⟩ (.int .i64 s1)).setCell ⟨gn, 2, none⟩ (.int .i64 s2)).setCell ⟨gn, 3, none⟩ (.int .i64 s3)).setCell ⟨gn, 4, none⟩ (.int .i64 s4)).setCell ⟨gn, 5, none⟩ (.int .i64 s5)).setCell ⟨gn, 6, none⟩ (.int .i64 s6)).setCell ⟨gn, 7, none⟩ (.int .i64 s7)).setCell ⟨gn, 8, none⟩ (.int .i64 s8)).setCell ⟨gn, 9, none⟩ (.int .i64 s9)) := by
  have a0 := blk_put (cs' := #[.int .i64 s0, .int .i64 0, .int .i64 0, .int .i64 0, .int .i64 0, .int .i64 0, .int .i64 0, .int .i64 0, .int .i64 0, .int .i64 0]) h 0 (.int .i64 s0) rfl
  have a1 := blk_put (cs' := #[.int .i64 s0, .int .i64 s1, .int .i64 0, .int .i64 0, .int .i64 0, .int .i64 0, .int .i64 0, .int .i64 0, .int .i64 0, .int .i64 0]) a0 1 (.int .i64 s1) rfl
  have a2 := blk_put (cs' := #[.int .i64 s0, .int .i64 s1, .int .i64 s2, .int .i64 0, .int .i64 0, .int .i64 0, .int .i64 0, .int .i64 0, .int .i64 0, .int .i64 0]) a1 2 (.int .i64 s2) rfl
  have a3 := blk_put (cs' := #[.int .i64 s0, .int .i64 s1, .int .i64 s2, .int .i64 s3, .int .i64 0, .int .i64 0, .int .i64 0, .int .i64 0, .int .i64 0, .int .i64 0]) a2 3 (.int .i64 s3) rfl
  have a4 := blk_put (cs' := #[.int .i64 s0, .int .i64 s1, .int .i64 s2, .int .i64 s3, .int .i64 s4, .int .i64 0, .int .i64 0, .int .i64 0, .int .i64 0, .int .i64 0]) a3 4 (.int .i64 s4) rfl
  have a5 := blk_put (cs' := #[.int .i64 s0, .int .i64 s1, .int .i64 s2, .int .i64 s3, .int .i64 s4, .int .i64 s5, .int .i64 0, .int .i64 0, .int .i64 0, .int .i64 0]) a4 5 (.int .i64 s5) rfl
  have a6 := blk_put (cs' := #[.int .i64 s0, .int .i64 s1, .int .i64 s2, .int .i64 s3, .int .i64 s4, .int .i64 s5, .int .i64 s6, .int .i64 0, .int .i64 0, .int .i64 0]) a5 6 (.int .i64 s6) rfl
  have a7 := blk_put (cs' := #[.int .i64 s0, .int .i64 s1, .int .i64 s2, .int .i64 s3, .int .i64 s4, .int .i64 s5, .int .i64 s6, .int .i64 s7, .int .i64 0, .int .i64 0]) a6 7 (.int .i64 s7) rfl
  have a8 := blk_put (cs' := #[.int .i64 s0, .int .i64 s1, .int .i64 s2, .int .i64 s3, .int .i64 s4, .int .i64 s5, .int .i64 s6, .int .i64 s7, .int .i64 s8, .int .i64 0]) a7 8 (.int .i64 s8) rfl
  have a9 := blk_put (cs' := #[.int .i64 s0, .int .i64 s1, .int .i64 s2, .int .i64 s3, .int .i64 s4, .int .i64 s5, .int .i64 s6, .int .i64 s7, .int .i64 s8, .int .i64 s9]) a8 9 (.int .i64 s9) rfl
  have e : (([s0, s1, s2, s3, s4, s5, s6, s7, s8, s9] : List Int).map (Value.int .i64)).toArray = #[.int .i64 s0, .int .i64 s1, .int .i64 s2, .int .i64 s3, .int .i64 s4, .int .i64 s5, .int .i64 s6, .int .i64 s7, .int .i64 s8, .int .i64 s9] := by simp
  rw [e]
  refine ⟨a9, KeepBut.set_ (KeepBut.set_ (KeepBut.set_ (KeepBut.set_ (KeepBut.set_ (KeepBut.set_ (KeepBut.set_ (KeepBut.set_ (KeepBut.set_ (KeepBut.set_ (KeepBut.refl W gn none) 0 _) 1 _) 2 _) 3 _) 4 _) 5 _) 6 _) 7 _) 8 _) 9 _, fun w hb hg => ?_⟩
  exact below_set (below_set (below_set (below_set (below_set (below_set (below_set (below_set (below_set (below_set hb hg) hg) hg) hg) hg) hg) hg) hg) hg) hg
set_option maxHeartbeats 8000000 in
set_option maxRecDepth 100000 in
theorem spec_l03Open_from.calls (w : World) (gw : Nat) (A0 : Option Addr) (c0 : Nat) (D : List Int) (n : Int) (q0 q1 q2 q3 q4 q5 q6 q7 q8 q9 : Int) (hC : Kd.C (Kd.int .i64) w A0 D.length D) : ∀ (k : Nat) (An : Option Addr) (cn : Nat) (N S : List Int) (mo : Int) (B : List Int) (m : Int) (fd : Bool) (vB : Value) (W : World) (r1 : List Int) (r2 : Int) (r3 : Bool), spec_l03Open_from.Inv w W gw A0 c0 D n q0 q1 q2 q3 q4 q5 q6 q7 q8 q9 B m fd vB → Kd.C (Kd.int .i64) W An N.length N → N.length ≤ cn → (∀ ad, An = some ad → ad.block ≠ gw) → S.length = 10 → spec_l03Open_from.f D n k N S mo B m fd = some (r1, r2, r3) →
    Calls Try.prog 96 #[.pointer (some ⟨gw, 0, none⟩), .slice An N.length cn, .agg (S.map (Value.int .i64)).toArray, .int .i64 mo] W fun e w' => e = .returned (.tuple #[]) ∧ KeepBut W w' gw none ∧ ∃ vB2, spec_l03Open_from.Inv w w' gw A0 c0 D n q0 q1 q2 q3 q4 q5 q6 q7 q8 q9 r1 r2 r3 vB2 := by
  intro k
  have HCC := Aside0.mk hC
  clear hC
  have hu1 := Try.underlying124
  have hu2 := Try.underlying122
  induction k using Nat.strongRecOn with
  | _ k IH =>
  intro An cn N S mo B m fd vB W r1 r2 r3 hI hN hcn hne hS h
  cases k with
  | zero => simp [spec_l03Open_from.f] at h
  | succ k =>
    have IHa := Aside0.mk IH
    clear IH
    rw [spec_l03Open_from.f] at h
    have HI := Aside0.mk hI
    have HN := Aside0.mk hN
    have HCN := Aside0.mk hcn
    have HNE := Aside0.mk hne
    clear hI hN hcn hne
    obtain ⟨s0, s1, s2, s3, s4, s5, s6, s7, s8, s9, rfl⟩ : ∃ a b c d e f a2 b2 c2 d2, S = [a, b, c, d, e, f, a2, b2, c2, d2] := by
      match S, hS with
      | [a, b, c, d, e, f, a2, b2, c2, d2], _ => exact ⟨a, b, c, d, e, f, a2, b2, c2, d2, rfl⟩
    clear hS
    by_cases h1 : fd = true ∧ mo ≥ m
    · rw [if_pos h1] at h
      have e := Option.some.inj h
      simp only [Prod.mk.injEq] at e
      obtain ⟨rfl, rfl, rfl⟩ := e
      obtain ⟨rfl, h1b⟩ := h1
      have d3 : decide (m ≤ mo) = true := decide_eq_true h1b
      clear h
      go_enter Try.func96, Try.ntmps96
      go_wp2_with (first | ((with_reducible refine gate_dst (N := 6) rfl ?_); refine box_event ?hg (N := 6) ?hd (cs := #[.int .i64 s0, .int .i64 s1, .int .i64 s2, .int .i64 s3, .int .i64 s4, .int .i64 s5, .int .i64 s6, .int .i64 s7, .int .i64 s8, .int .i64 s9]) (t := 122) ?hr ?_; (case hd => rfl); (case hg => rfl); (case hr => first | (go_simp; done) | (go_simp; rfl)); intro gs hgs W1 hs1 hbb; have HS := Aside0.mk hs1; have HI1 := Aside0.mk (HI.out.next hbb); have HN1 := Aside0.mk (Kd.C_below HN.out hbb); have KP := Aside0.mk (KeepBut.of_below hbb gw none); have GS := Aside0.mk (show gw < gs ∧ W.heap.size ≤ gs from by rw [hgs]; exact ⟨blk_lt HI.out.h, Nat.le_refl _⟩); clear HI HN hs1 hbb hgs; have hq0 : W1.cell? ⟨gw, 0, none⟩ = some (.slice A0 D.length c0) := (blk_cell HI1.out.h 0).trans rfl; have hq1 : W1.cell? ⟨gw, 11, none⟩ = some (.int .i64 n) := (blk_cell HI1.out.h 11).trans rfl; have hq3 : W1.cell? ⟨gw, 13, none⟩ = some (.int .i64 m) := (blk_cell HI1.out.h 13).trans rfl; have hq4 : W1.cell? ⟨gw, 14, none⟩ = some (.bool true) := (blk_cell HI1.out.h 14).trans rfl))
      refine bodyPost_ret (results_none rfl _ _ _) rfl ⟨rfl, KP.out, vB, HI1.out⟩
    · rw [if_neg h1] at h
      by_cases h2 : N.length = D.length
      · rw [if_pos h2] at h
        by_cases h3 : N.length ≤ 1048576
        · rw [if_pos h3] at h
          have e := Option.some.inj h
          simp only [Prod.mk.injEq] at e
          obtain ⟨rfl, rfl, rfl⟩ := e
          have H3 := Aside0.mk h3
          have e1 : ((N.length : Int) == (D.length : Int)) = true := by rw [h2]; exact beq_self_eq_true _
          have e2 : decide ((N.length : Int) = (D.length : Int)) = true := decide_eq_true (by rw [h2])
          have HH2 := Aside0.mk h2
          clear h h3 h2
          cases fd with
          | false =>
            clear h1
            go_enter Try.func96, Try.ntmps96
            go_wp2_with (first | ((with_reducible refine gate_dst (N := 6) rfl ?_); refine box_event ?hg (N := 6) ?hd (cs := #[.int .i64 s0, .int .i64 s1, .int .i64 s2, .int .i64 s3, .int .i64 s4, .int .i64 s5, .int .i64 s6, .int .i64 s7, .int .i64 s8, .int .i64 s9]) (t := 122) ?hr ?_; (case hd => rfl); (case hg => rfl); (case hr => first | (go_simp; done) | (go_simp; rfl)); intro gs hgs W1 hs1 hbb; have HS := Aside0.mk hs1; have HI1 := Aside0.mk (HI.out.next hbb); have HN1 := Aside0.mk (Kd.C_below HN.out hbb); have KP := Aside0.mk (KeepBut.of_below hbb gw none); have GS := Aside0.mk (show gw < gs ∧ W.heap.size ≤ gs from by rw [hgs]; exact ⟨blk_lt HI.out.h, Nat.le_refl _⟩); clear HI HN hs1 hbb hgs; have hq0 : W1.cell? ⟨gw, 0, none⟩ = some (.slice A0 D.length c0) := (blk_cell HI1.out.h 0).trans rfl; have hq1 : W1.cell? ⟨gw, 11, none⟩ = some (.int .i64 n) := (blk_cell HI1.out.h 11).trans rfl; have hq3 : W1.cell? ⟨gw, 13, none⟩ = some (.int .i64 m) := (blk_cell HI1.out.h 13).trans rfl; have hq4 : W1.cell? ⟨gw, 14, none⟩ = some (.bool false) := (blk_cell HI1.out.h 14).trans rfl) | ((with_reducible refine gate_dst (N := 33) rfl ?_); refine Kd.R_lit (Kd.int .i64) _ 2 ?hg (N := 33) ?hd (xs := ([] : List Int)) (inner := []) (ok := fun _ => True) (okp := fun _ => True) ?hr ?hp (fun _ hk => hk) trivial (Below.refl _ _) (Nat.le_refl _) (by simp) ?_; (case hd => rfl); (case hg => rfl); (case hr => first | (go_simp; done) | (go_simp; rfl)); (case hp => exact (Reps.none _ _)); intro v33 w3 ho3 hb3 hg_ hnew_; have HO3 := Aside0.mk ho3; have HB3 := Aside0.mk hb3; clear ho3 hb3 hg_ hnew_) | ((with_reducible refine gate_builtin (b := .append) (xs := #[.tmp 33, .tmp 34]) rfl ?_); at_builtin; refine Kd.R_append_rows (Kd.int .i64) (w0 := W1) W1.heap.size rfl (.tmp 33) (.tmp 34) 25 2 (.int .i64 0) 8 rfl Try.underlying25 spec_l03Open_from.info rfl (by decide) (by omega) v33 [] N _ _ _ (fun _ => True) (fun _ => False) rfl rfl ?aO ?aR (fun _ _ h => h) (fun _ h => h.elim) ?aF ?aB ?aS ?aL ?_; (case aR => exact Kd.C_below HN1.out HB3.out); (case aB => exact HB3.out); (case aF => exact (fun _ _ => trivial)); (case aO => exact HO3.out); (case aS => exact HB3.out.size); (case aL => have := H3.out; simp; omega); intro v35 w5 ho hb hg hat; rw [List.nil_append] at ho; have HI5 := Aside0.mk (HI1.out.next hb); have HO5 := Aside0.mk (Kd.R_lower ho HI1.out.b.size); have KP5 := Aside0.mk (KP.out.trans (KeepBut.of_below hb gw none) (.inl rfl)); clear ho hb hg hat; obtain ⟨A5, c5, e5⟩ := Kd.R_slice HO5.out; subst e5; have hw2 : w5.cell? ⟨gw, 12, none⟩ = some vB := (blk_cell HI5.out.h 12).trans rfl; have hw3 : w5.cell? ⟨gw, 13, none⟩ = some (.int .i64 m) := (blk_cell HI5.out.h 13).trans rfl; have hw4 : w5.cell? ⟨gw, 14, none⟩ = some (.bool false) := (blk_cell HI5.out.h 14).trans rfl; have hz2 := blk_frozen HI5.out.h 12; have hz3 := blk_frozen HI5.out.h 13; have hz4 := blk_frozen HI5.out.h 14))
            refine bodyPost_ret (results_none rfl _ _ _) rfl ⟨rfl, ?_, _, HI5.out.store HO5.out mo⟩
            exact ((KP5.out.set_ 12 _).set_ 13 _).set_ 14 _
          | true =>
            have hmm : ¬ m ≤ mo := fun z => h1 ⟨rfl, z⟩
            have d3 : decide (m ≤ mo) = false := decide_eq_false hmm
            clear h1 hmm
            go_enter Try.func96, Try.ntmps96
            go_wp2_with (first | ((with_reducible refine gate_dst (N := 6) rfl ?_); refine box_event ?hg (N := 6) ?hd (cs := #[.int .i64 s0, .int .i64 s1, .int .i64 s2, .int .i64 s3, .int .i64 s4, .int .i64 s5, .int .i64 s6, .int .i64 s7, .int .i64 s8, .int .i64 s9]) (t := 122) ?hr ?_; (case hd => rfl); (case hg => rfl); (case hr => first | (go_simp; done) | (go_simp; rfl)); intro gs hgs W1 hs1 hbb; have HS := Aside0.mk hs1; have HI1 := Aside0.mk (HI.out.next hbb); have HN1 := Aside0.mk (Kd.C_below HN.out hbb); have KP := Aside0.mk (KeepBut.of_below hbb gw none); have GS := Aside0.mk (show gw < gs ∧ W.heap.size ≤ gs from by rw [hgs]; exact ⟨blk_lt HI.out.h, Nat.le_refl _⟩); clear HI HN hs1 hbb hgs; have hq0 : W1.cell? ⟨gw, 0, none⟩ = some (.slice A0 D.length c0) := (blk_cell HI1.out.h 0).trans rfl; have hq1 : W1.cell? ⟨gw, 11, none⟩ = some (.int .i64 n) := (blk_cell HI1.out.h 11).trans rfl; have hq3 : W1.cell? ⟨gw, 13, none⟩ = some (.int .i64 m) := (blk_cell HI1.out.h 13).trans rfl; have hq4 : W1.cell? ⟨gw, 14, none⟩ = some (.bool true) := (blk_cell HI1.out.h 14).trans rfl) | ((with_reducible refine gate_dst (N := 33) rfl ?_); refine Kd.R_lit (Kd.int .i64) _ 2 ?hg (N := 33) ?hd (xs := ([] : List Int)) (inner := []) (ok := fun _ => True) (okp := fun _ => True) ?hr ?hp (fun _ hk => hk) trivial (Below.refl _ _) (Nat.le_refl _) (by simp) ?_; (case hd => rfl); (case hg => rfl); (case hr => first | (go_simp; done) | (go_simp; rfl)); (case hp => exact (Reps.none _ _)); intro v33 w3 ho3 hb3 hg_ hnew_; have HO3 := Aside0.mk ho3; have HB3 := Aside0.mk hb3; clear ho3 hb3 hg_ hnew_) | ((with_reducible refine gate_builtin (b := .append) (xs := #[.tmp 33, .tmp 34]) rfl ?_); at_builtin; refine Kd.R_append_rows (Kd.int .i64) (w0 := W1) W1.heap.size rfl (.tmp 33) (.tmp 34) 25 2 (.int .i64 0) 8 rfl Try.underlying25 spec_l03Open_from.info rfl (by decide) (by omega) v33 [] N _ _ _ (fun _ => True) (fun _ => False) rfl rfl ?aO ?aR (fun _ _ h => h) (fun _ h => h.elim) ?aF ?aB ?aS ?aL ?_; (case aR => exact Kd.C_below HN1.out HB3.out); (case aB => exact HB3.out); (case aF => exact (fun _ _ => trivial)); (case aO => exact HO3.out); (case aS => exact HB3.out.size); (case aL => have := H3.out; simp; omega); intro v35 w5 ho hb hg hat; rw [List.nil_append] at ho; have HI5 := Aside0.mk (HI1.out.next hb); have HO5 := Aside0.mk (Kd.R_lower ho HI1.out.b.size); have KP5 := Aside0.mk (KP.out.trans (KeepBut.of_below hb gw none) (.inl rfl)); clear ho hb hg hat; obtain ⟨A5, c5, e5⟩ := Kd.R_slice HO5.out; subst e5; have hw2 : w5.cell? ⟨gw, 12, none⟩ = some vB := (blk_cell HI5.out.h 12).trans rfl; have hw3 : w5.cell? ⟨gw, 13, none⟩ = some (.int .i64 m) := (blk_cell HI5.out.h 13).trans rfl; have hw4 : w5.cell? ⟨gw, 14, none⟩ = some (.bool true) := (blk_cell HI5.out.h 14).trans rfl; have hz2 := blk_frozen HI5.out.h 12; have hz3 := blk_frozen HI5.out.h 13; have hz4 := blk_frozen HI5.out.h 14))
            refine bodyPost_ret (results_none rfl _ _ _) rfl ⟨rfl, ?_, _, HI5.out.store HO5.out mo⟩
            exact ((KP5.out.set_ 12 _).set_ 13 _).set_ 14 _
        · rw [if_neg h3] at h; cases h
      · rw [if_neg h2] at h
        by_cases h4 : N.length < D.length
        rotate_left
        · rw [if_neg h4] at h; cases h
        rw [if_pos h4] at h
        have e1 : ((N.length : Int) == (D.length : Int)) = false := beq_eq_false_iff_ne.mpr (by omega)
        have e2 : decide ((N.length : Int) = (D.length : Int)) = false := decide_eq_false (by omega)
        have HL := Aside0.mk h
        clear h
        have gn0 : (0 : Int) ≤ (N.length : Int) := by omega
        have gnl : (N.length : Int) < (D.length : Int) := by omega
        cases fd with
        | false =>
          clear h1
          go_enter Try.func96, Try.ntmps96
          go_wp2_with (first | ((with_reducible refine gate_dst (N := 6) rfl ?_); refine box_event ?hg (N := 6) ?hd (cs := #[.int .i64 s0, .int .i64 s1, .int .i64 s2, .int .i64 s3, .int .i64 s4, .int .i64 s5, .int .i64 s6, .int .i64 s7, .int .i64 s8, .int .i64 s9]) (t := 122) ?hr ?_; (case hd => rfl); (case hg => rfl); (case hr => first | (go_simp; done) | (go_simp; rfl)); intro gs hgs W1 hs1 hbb; have HS := Aside0.mk hs1; have HI1 := Aside0.mk (HI.out.next hbb); have HN1 := Aside0.mk (Kd.C_below HN.out hbb); have KP := Aside0.mk (KeepBut.of_below hbb gw none); have GS := Aside0.mk (show gw < gs ∧ W.heap.size ≤ gs from by rw [hgs]; exact ⟨blk_lt HI.out.h, Nat.le_refl _⟩); clear HI HN hs1 hbb hgs; have hq0 : W1.cell? ⟨gw, 0, none⟩ = some (.slice A0 D.length c0) := (blk_cell HI1.out.h 0).trans rfl; have hq1 : W1.cell? ⟨gw, 11, none⟩ = some (.int .i64 n) := (blk_cell HI1.out.h 11).trans rfl; have hq3 : W1.cell? ⟨gw, 13, none⟩ = some (.int .i64 m) := (blk_cell HI1.out.h 13).trans rfl; have hq4 : W1.cell? ⟨gw, 14, none⟩ = some (.bool false) := (blk_cell HI1.out.h 14).trans rfl; obtain ⟨adn, en, hnc⟩ := Kd.at_int (Kd.C_below HCC.out HI1.out.b) (N.length : Int) gn0 gnl; cases en; rw [Int.toNat_natCast] at hnc))
          clear hq0 hq1 hq3 hq4 hnc
          go_loopg [9] k (fun gq v9 W2 => ∃ (x : Int) (B1 : List Int) (m1 : Int) (fd1 : Bool) (vB1 : Value), v9 = .int .i64 x ∧ Aside0 (spec_l03Open_from.l0 D n gq N [s0, s1, s2, s3, s4, s5, s6, s7, s8, s9] mo x B1 m1 fd1 = some (r1, r2, r3)) ∧ Aside0 (gq ≤ k) ∧ Aside0 (spec_l03Open_from.Inv w W2 gw (some adn) c0 D n q0 q1 q2 q3 q4 q5 q6 q7 q8 q9 B1 m1 fd1 vB1) ∧ Aside0 (KeepBut W W2 gw none) ∧ Aside0 (W2.heap[gs]? = some (.cells #[.int .i64 s0, .int .i64 s1, .int .i64 s2, .int .i64 s3, .int .i64 s4, .int .i64 s5, .int .i64 s6, .int .i64 s7, .int .i64 s8, .int .i64 s9] 122 (0, 0))) ∧ Aside0 (Kd.C (Kd.int .i64) W2 An N.length N))
          case atStart => exact ⟨0, B, m, _, vB, rfl, HL, ⟨Nat.le_refl _⟩, HI1, KP, HS, HN1⟩
          case round =>
            clear HL HI1 KP HS HN1
            obtain ⟨x, B1, m1, fd1, vB1, rfl, HL, HK, HI2, KP2, HS2, HN2⟩ := hrel
            cases gk with
            | zero => exact absurd HL.out (by simp [spec_l03Open_from.l0])
            | succ g =>
              have H := HL.out
              rw [spec_l03Open_from.l0] at H
              clear HL
              have hp1 : wr.cell? ⟨gw, 11, none⟩ = some (.int .i64 n) := (blk_cell HI2.out.h 11).trans rfl
              by_cases hx : x < n
              · rw [if_pos hx] at H
                by_cases hg : 0 ≤ x ∧ x < 10 ∧ N.length ≤ 1048576
                · rw [if_pos hg] at H
                  obtain ⟨g1, g2, g4⟩ := hg
                  have hcx : wr.cell? ⟨gs, x.toNat, none⟩ = some (.int .i64 (rd [s0, s1, s2, s3, s4, s5, s6, s7, s8, s9] x)) := spec_l03Open_from.cell (S := [s0, s1, s2, s3, s4, s5, s6, s7, s8, s9]) HS2.out x g1 (by simp; omega)
                  have gx6 : (x : Int) < 10 := g2
                  by_cases hlt : rd [s0, s1, s2, s3, s4, s5, s6, s7, s8, s9] x < rd D (N.length : Int)
                  · rw [if_pos hlt] at H
                    have HL := Aside0.mk H
                    have hwx : wrap64 (x + 1) = x + 1 := by unfold wrap64; omega
                    rw [hwx] at HL
                    have q1 : decide (rd [s0, s1, s2, s3, s4, s5, s6, s7, s8, s9] x < rd D (N.length : Int)) = true := decide_eq_true hlt
                    clear H hlt hwx
                    go_wp2
                    go_roundg g
                    case measure => omega
                    case rel => exact ⟨_, B1, m1, fd1, vB1, rfl, HL, ⟨by have := HK.out; omega⟩, HI2, KP2, HS2, HN2⟩
                  · rw [if_neg hlt] at H
                    obtain ⟨has, hhas, H⟩ := Option.bind_eq_some_iff.mp H
                    obtain ⟨⟨B2, m2, fd2⟩, hput, H⟩ := Option.bind_eq_some_iff.mp H
                    simp only at H
                    have HHS := Aside0.mk hhas
                    have HR := Aside0.mk H
                    have q1 : decide (rd [s0, s1, s2, s3, s4, s5, s6, s7, s8, s9] x < rd D (N.length : Int)) = false := decide_eq_false hlt
                    clear H hhas hlt
                    cases has with
                    | true =>
                      rw [if_pos rfl] at hput
                      have HP := Aside0.mk hput
                      clear hput
                      go_upto_region 15 with (first | (go_at_call 143; refine (spec_l00Has.calls g An cn N x true _ HN2.out HCN.out HHS.out).mono ?_; rintro e w' ⟨rfl, ⟨nd, rfl⟩⟩; have HI3 := Aside0.mk (HI2.out.drew nd); have KP3 := Aside0.mk (KP2.out.trans (KeepBut.of_below (pw_below_drewN (Below.refl _ _) nd) gw none) (.inl rfl)); have HS3 := Aside0.mk (blk_drewN HS2.out nd); have HN3 := Aside0.mk (Kd.C_below HN2.out (pw_below_drewN (Below.refl _ _) nd)); have hs0 : (wr.drewN nd).cell? ⟨gs, 0, none⟩ = some (.int .i64 s0) := (blk_cell HS3.out 0).trans rfl; have hs1 : (wr.drewN nd).cell? ⟨gs, 1, none⟩ = some (.int .i64 s1) := (blk_cell HS3.out 1).trans rfl; have hs2 : (wr.drewN nd).cell? ⟨gs, 2, none⟩ = some (.int .i64 s2) := (blk_cell HS3.out 2).trans rfl; have hs3 : (wr.drewN nd).cell? ⟨gs, 3, none⟩ = some (.int .i64 s3) := (blk_cell HS3.out 3).trans rfl; have hs4 : (wr.drewN nd).cell? ⟨gs, 4, none⟩ = some (.int .i64 s4) := (blk_cell HS3.out 4).trans rfl; have hs5 : (wr.drewN nd).cell? ⟨gs, 5, none⟩ = some (.int .i64 s5) := (blk_cell HS3.out 5).trans rfl; have hs6 : (wr.drewN nd).cell? ⟨gs, 6, none⟩ = some (.int .i64 s6) := (blk_cell HS3.out 6).trans rfl; have hs7 : (wr.drewN nd).cell? ⟨gs, 7, none⟩ = some (.int .i64 s7) := (blk_cell HS3.out 7).trans rfl; have hs8 : (wr.drewN nd).cell? ⟨gs, 8, none⟩ = some (.int .i64 s8) := (blk_cell HS3.out 8).trans rfl; have hs9 : (wr.drewN nd).cell? ⟨gs, 9, none⟩ = some (.int .i64 s9) := (blk_cell HS3.out 9).trans rfl; clear HI2 KP2 HS2 HN2 hp1 hcx; generalize wr.drewN nd = w2 at *) | ((with_reducible refine gate_dst (N := 11) rfl ?_); refine box_event ?hg (N := 11) ?hd (cs := #[.int .i64 0, .int .i64 0, .int .i64 0, .int .i64 0, .int .i64 0, .int .i64 0, .int .i64 0, .int .i64 0, .int .i64 0, .int .i64 0]) (t := 122) ?hr ?_; (case hd => rfl); (case hg => rfl); (case hr => first | (go_simp; done) | (go_simp; rfl)); intro gn hgn w3 hn3 hbb; have HB3 := Aside0.mk hbb; have HX3 := Aside0.mk hn3; have GN := Aside0.mk (show gw < gn ∧ gs < gn ∧ w2.heap.size ≤ gn from by rw [hgn]; exact ⟨blk_lt HI3.out.h, blk_lt HS3.out, Nat.le_refl _⟩); clear hn3 hbb hgn; have hn0 : w3.cell? ⟨gn, 0, none⟩ = some (.int .i64 0) := (blk_cell HX3.out 0).trans rfl; have hf0 := blk_frozen HX3.out 0; have hn1 : w3.cell? ⟨gn, 1, none⟩ = some (.int .i64 0) := (blk_cell HX3.out 1).trans rfl; have hf1 := blk_frozen HX3.out 1; have hn2 : w3.cell? ⟨gn, 2, none⟩ = some (.int .i64 0) := (blk_cell HX3.out 2).trans rfl; have hf2 := blk_frozen HX3.out 2; have hn3 : w3.cell? ⟨gn, 3, none⟩ = some (.int .i64 0) := (blk_cell HX3.out 3).trans rfl; have hf3 := blk_frozen HX3.out 3; have hn4 : w3.cell? ⟨gn, 4, none⟩ = some (.int .i64 0) := (blk_cell HX3.out 4).trans rfl; have hf4 := blk_frozen HX3.out 4; have hn5 : w3.cell? ⟨gn, 5, none⟩ = some (.int .i64 0) := (blk_cell HX3.out 5).trans rfl; have hf5 := blk_frozen HX3.out 5; have hn6 : w3.cell? ⟨gn, 6, none⟩ = some (.int .i64 0) := (blk_cell HX3.out 6).trans rfl; have hf6 := blk_frozen HX3.out 6; have hn7 : w3.cell? ⟨gn, 7, none⟩ = some (.int .i64 0) := (blk_cell HX3.out 7).trans rfl; have hf7 := blk_frozen HX3.out 7; have hn8 : w3.cell? ⟨gn, 8, none⟩ = some (.int .i64 0) := (blk_cell HX3.out 8).trans rfl; have hf8 := blk_frozen HX3.out 8; have hn9 : w3.cell? ⟨gn, 9, none⟩ = some (.int .i64 0) := (blk_cell HX3.out 9).trans rfl; have hf9 := blk_frozen HX3.out 9))
                      have SX := spec_l03Open_from.ten HX3.out s0 s1 s2 s3 s4 s5 s6 s7 s8 s9
                      have HI4 := Aside0.mk (HI3.out.next HB3.out)
                      have HS4 := Aside0.mk (blk_below HS3.out HB3.out)
                      have KP4 := Aside0.mk (KP3.out.trans (KeepBut.of_below HB3.out gw none) (.inl rfl))
                      clear hn0 hf0 hs0 hn1 hf1 hs1 hn2 hf2 hs2 hn3 hf3 hs3 hn4 hf4 hs4 hn5 hf5 hs5 hn6 hf6 hs6 hn7 hf7 hs7 hn8 hf8 hs8 hn9 hf9 hs9
                      generalize ((((((((((w3.setCell ⟨gn, 0, none⟩ (.int .i64 s0)).setCell ⟨gn, 1, none⟩ (.int .i64 s1)).setCell ⟨gn, 2, none⟩ (.int .i64 s2)).setCell ⟨gn, 3, none⟩ (.int .i64 s3)).setCell ⟨gn, 4, none⟩ (.int .i64 s4)).setCell ⟨gn, 5, none⟩ (.int .i64 s5)).setCell ⟨gn, 6, none⟩ (.int .i64 s6)).setCell ⟨gn, 7, none⟩ (.int .i64 s7)).setCell ⟨gn, 8, none⟩ (.int .i64 s8)).setCell ⟨gn, 9, none⟩ (.int .i64 s9)) = w4 at SX ⊢
                      obtain ⟨hx4, hk4, hb4⟩ := SX
                      have HX4 := Aside0.mk hx4
                      have NV := Aside0.mk (show some gn ≠ vB1.ownBlock from fun e => by have := Kd.R_lt HI3.out.rb gn e.symm; have := GN.out; omega)
                      have HI5 := Aside0.mk (HI4.out.keep hk4 (hb4 w HI4.out.b (by have := GN.out; have := HI3.out.b.size; omega)) (by have := GN.out; omega) NV.out)
                      have HS5 := Aside0.mk ((hk4.2 gs (blk_lt HS4.out) (by have := GN.out; omega) (by simp)).trans HS4.out)
                      have K5 := Aside0.mk hk4
                      have SZ3 := Aside0.mk HI3.out.b.size
                      clear hx4 hk4 hb4 HI4 HS4 HI3
                      have hcx5 := spec_l03Open_from.cell HX4.out x g1 (by simp; omega)
                      have hfx5 := blk_frozen HX4.out x.toNat
                      go_upto_region 16 with (fail)
                      have HX6 : Aside0 ((w4.setCell ⟨gn, x.toNat, none⟩ (.int .i64 (wrap64 (rd [s0, s1, s2, s3, s4, s5, s6, s7, s8, s9] x - rd D (N.length : Int))))).heap[gn]? = some (.cells ((([s0, s1, s2, s3, s4, s5, s6, s7, s8, s9] : List Int).set x.toNat (wrap64 (rd [s0, s1, s2, s3, s4, s5, s6, s7, s8, s9] x - rd D (N.length : Int)))).map (Value.int .i64)).toArray 122 (0, 0))) := ⟨blk_put (cs := (([s0, s1, s2, s3, s4, s5, s6, s7, s8, s9] : List Int).map (Value.int .i64)).toArray) HX4.out x.toNat _ (by rw [List.map_set]; simp)⟩
                      have K6 := Aside0.mk (K5.out.set_ x.toNat (.int .i64 (wrap64 (rd [s0, s1, s2, s3, s4, s5, s6, s7, s8, s9] x - rd D (N.length : Int)))))
                      have HI6 := Aside0.mk (HI5.out.keep ((KeepBut.refl w4 gn none).set_ x.toNat (.int .i64 (wrap64 (rd [s0, s1, s2, s3, s4, s5, s6, s7, s8, s9] x - rd D (N.length : Int))))) (below_set HI5.out.b (by have := GN.out; have := SZ3.out; omega)) (by have := GN.out; omega) NV.out)
                      have HS6 := Aside0.mk (blk_far HS5.out (p := ⟨gn, x.toNat, none⟩) (by have := GN.out; show gs ≠ gn; omega) (.int .i64 (wrap64 (rd [s0, s1, s2, s3, s4, s5, s6, s7, s8, s9] x - rd D (N.length : Int)))))
                      clear hcx5 hfx5 HX4 HI5 HS5 K5
                      obtain ⟨t0, t1, t2, t3, t4, t5, t6, t7, t8, t9, hT⟩ : ∃ a b c d e f a2 b2 c2 d2, ([s0, s1, s2, s3, s4, s5, s6, s7, s8, s9] : List Int).set x.toNat (wrap64 (rd [s0, s1, s2, s3, s4, s5, s6, s7, s8, s9] x - rd D (N.length : Int))) = [a, b, c, d, e, f, a2, b2, c2, d2] := by
                        match ([s0, s1, s2, s3, s4, s5, s6, s7, s8, s9] : List Int).set x.toNat (wrap64 (rd [s0, s1, s2, s3, s4, s5, s6, s7, s8, s9] x - rd D (N.length : Int))), (List.length_set : (([s0, s1, s2, s3, s4, s5, s6, s7, s8, s9] : List Int).set x.toNat (wrap64 (rd [s0, s1, s2, s3, s4, s5, s6, s7, s8, s9] x - rd D (N.length : Int)))).length = _) with
                        | [a, b, c, d, e, f, a2, b2, c2, d2], _ => exact ⟨a, b, c, d, e, f, a2, b2, c2, d2, rfl⟩
                      have HP2 := HP.out
                      rw [hT] at HP2
                      have HX62 := HX6.out
                      rw [hT] at HX62
                      generalize w4.setCell ⟨gn, x.toNat, none⟩ (.int .i64 (wrap64 (rd [s0, s1, s2, s3, s4, s5, s6, s7, s8, s9] x - rd D (N.length : Int)))) = w6 at *
                      have HP3 := Aside0.mk HP2
                      have HX7 := Aside0.mk HX62
                      clear HP2 HX62 HX6 HP hT
                      have HN6 := Aside0.mk (spec_l03Open_from.keepN HN3.out HB3.out K6.out GN.out.2.2)
                      have KP6 : Aside0 (KeepBut W w6 gw none) := ⟨⟨Nat.le_trans KP4.out.1 K6.out.1, fun i hi hne hr => (K6.out.2 i (Nat.lt_of_lt_of_le hi KP4.out.1) (by have := GN.out; have := KP3.out.1; omega) hr).trans (KP4.out.2 i hi hne hr)⟩⟩
                      clear K6 HB3 HN3 KP3 HS3 KP4 HX3
                      have hr6 : w6.rangeAt gn 0 [.int .i64 t0, .int .i64 t1, .int .i64 t2, .int .i64 t3, .int .i64 t4, .int .i64 t5, .int .i64 t6, .int .i64 t7, .int .i64 t8, .int .i64 t9] := by
                        intro j v hv
                        rw [Nat.zero_add, blk_cell HX7.out j]
                        simpa using hv
                      have hsz : (Try.prog.info? 122).map (·.size) = some 10 := spec_l03Open_from.size10
                      have hlt6 : gn < w6.heap.size := blk_lt HX7.out
                      go_region_held3 (fun w' => w'.rangeAt gn 0 [.int .i64 t0, .int .i64 t1, .int .i64 t2, .int .i64 t3, .int .i64 t4, .int .i64 t5, .int .i64 t6, .int .i64 t7, .int .i64 t8, .int .i64 t9]) (((repeat (first | (with_reducible exact hr6) | (with_reducible refine spec_l03Open_from.keepRD ?_) | (with_reducible refine World.rangeAt_alloc ?_ _) | (with_reducible refine spec_l03Open_from.keepRN ?_) | (with_reducible refine spec_l03Open_from.keepRT HT9.out ?_) | (with_reducible refine spec_l03Open_from.keepRB HB86.out hlt6 ?_) | (with_reducible refine spec_l03Open_from.keepRB HB83.out hlt6 ?_))))) (first | (refine spec_l03Open_from.app (w0 := w6) ?hw (.tmp 81) (.tmp 82) rfl (.slice (some ⟨w6.heap.size, 0, none⟩) 0 0) [] N _ _ _ rfl rfl ?aO ?aR ?aB ?aL ?_; (case hw => rfl); (case aO => (refine spec_l03Open_from.lit [] ?_ ?_ (Nat.zero_le _)); ((repeat (first | exact spec_l03Open_from.top rfl | exact spec_l03Open_from.top (by simp) | (with_reducible refine blk_drew ?_) | (with_reducible refine blk_alloc ?_ _)))); (omega)); (case aR => (refine Kd.C_below HN6.out ?_); (repeat (first | exact Below.refl _ _ | (with_reducible refine below_drew1 ?_) | (with_reducible refine below_alloc ?_ _) | (with_reducible refine pw_below_drewN ?_ _)))); (case aB => (repeat (first | exact Below.refl _ _ | (with_reducible refine below_drew1 ?_) | (with_reducible refine below_alloc ?_ _) | (with_reducible refine pw_below_drewN ?_ _)))); (case aL => simp; omega); intro v83 w83 ho hb hg; rw [List.nil_append] at ho; have HO83 := Aside0.mk ho; have HB83 := Aside0.mk hb; have HG83 := Aside0.mk hg; clear ho hb hg) | (refine spec_l03Open_from.app (w0 := w6) ?hw (.tmp 81) (.tmp 82) rfl (.slice (some ⟨w6.heap.size + 1, 0, none⟩) 0 0) [] N _ _ _ rfl rfl ?aO ?aR ?aB ?aL ?_; (case hw => rfl); (case aO => (refine spec_l03Open_from.lit [] ?_ ?_ (Nat.zero_le _)); ((repeat (first | exact spec_l03Open_from.top rfl | exact spec_l03Open_from.top (by simp) | (with_reducible refine blk_drew ?_) | (with_reducible refine blk_alloc ?_ _)))); (omega)); (case aR => (refine Kd.C_below HN6.out ?_); (repeat (first | exact Below.refl _ _ | (with_reducible refine below_drew1 ?_) | (with_reducible refine below_alloc ?_ _) | (with_reducible refine pw_below_drewN ?_ _)))); (case aB => (repeat (first | exact Below.refl _ _ | (with_reducible refine below_drew1 ?_) | (with_reducible refine below_alloc ?_ _) | (with_reducible refine pw_below_drewN ?_ _)))); (case aL => simp; omega); intro v83 w83 ho hb hg; rw [List.nil_append] at ho; have HO83 := Aside0.mk ho; have HB83 := Aside0.mk hb; have HG83 := Aside0.mk hg; clear ho hb hg) | (refine spec_l03Open_from.app (w0 := w6) ?hw (.tmp 83) (.tmp 85) rfl v83 N [x] _ _ _ rfl rfl ?bO ?bR ?bB ?bL ?_; (case hw => rfl); (case bO => (refine Kd.R_below HO83.out ?_); (repeat (first | exact Below.refl _ _ | (with_reducible refine below_drew1 ?_) | (with_reducible refine below_alloc ?_ _) | (with_reducible refine pw_below_drewN ?_ _)))); (case bR => (refine (Kd.R_reads' (spec_l03Open_from.lit (base := 0) [x] ?_ (Nat.zero_le _) (by simp))).2.2); ((repeat (first | exact spec_l03Open_from.top rfl | exact spec_l03Open_from.top (by simp) | (with_reducible refine blk_drew ?_) | (with_reducible refine blk_alloc ?_ _))); done)); (case bB => (repeat (first | exact HB83.out | exact Below.refl _ _ | (with_reducible refine below_drew1 ?_) | (with_reducible refine below_alloc ?_ _) | (with_reducible refine pw_below_drewN ?_ _)))); (case bL => simp; omega); intro v86 w86 ho hb hg; have HO86 := Aside0.mk ho; have HB86 := Aside0.mk hb; clear ho hb hg) | (refine spec_l03Open_from.app (w0 := w6) ?hw (.tmp 83) (.tmp 85) rfl v83 N [x] _ _ _ rfl rfl ?bO ?bR ?bB ?bL ?_; (case hw => rfl); (case bO => (refine Kd.R_below HO83.out ?_); (repeat (first | exact Below.refl _ _ | (with_reducible refine below_drew1 ?_) | (with_reducible refine below_alloc ?_ _) | (with_reducible refine pw_below_drewN ?_ _)))); (case bR => (refine (Kd.R_reads' (spec_l03Open_from.lit (base := 0) [x] ?_ (Nat.zero_le _) (by simp))).2.2); ((repeat (with_reducible refine blk_drew ?_)); (refine (HG83.out.block _ ?_ ?_).trans ?_); rotate_left 2; ((repeat (first | exact spec_l03Open_from.top rfl | exact spec_l03Open_from.top (by simp) | (with_reducible refine blk_drew ?_) | (with_reducible refine blk_alloc ?_ _)))); (focus (first | (simp; done) | (simp; omega) | trace_state)); (focus (first | (simp [Value.ownBlock]; done) | (simp [Value.ownBlock]; omega) | trace_state)))); (case bB => (repeat (first | exact HB83.out | exact Below.refl _ _ | (with_reducible refine below_drew1 ?_) | (with_reducible refine below_alloc ?_ _) | (with_reducible refine pw_below_drewN ?_ _)))); (case bL => simp; omega); intro v86 w86 ho hb hg; have HO86 := Aside0.mk ho; have HB86 := Aside0.mk hb; clear ho hb hg) | (go_at_call 96; obtain ⟨A7, c7, e7, hc7, hC7⟩ := Kd.R_reads HO86.out; subst e7; refine (IHa.out g (by have := HK.out; omega) A7 c7 (N ++ [x]) [t0, t1, t2, t3, t4, t5, t6, t7, t8, t9] mo B1 m1 fd1 vB1 _ B2 m2 fd2 (HI6.out.next (by (repeat (first | exact HB86.out | exact Below.refl _ _ | (with_reducible refine below_drew1 ?_) | (with_reducible refine below_alloc ?_ _) | (with_reducible refine pw_below_drewN ?_ _))))) (Kd.C_below hC7 (by (repeat (first | exact Below.refl _ _ | (with_reducible refine below_drew1 ?_) | (with_reducible refine below_alloc ?_ _) | (with_reducible refine pw_below_drewN ?_ _))))) hc7 (fun ad e => by subst e; have q := Kd.R_base HO86.out ad.block rfl; have := blk_lt HX7.out; have := GN.out; omega) rfl HP3.out).mono ?_; rintro e w' ⟨rfl, hk, vB2, hI⟩; have HI9 := Aside0.mk hI; have KP9 := Aside0.mk ((KP6.out.trans (KeepBut.of_below (by (repeat (first | exact HB86.out | exact Below.refl _ _ | (with_reducible refine below_drew1 ?_) | (with_reducible refine below_alloc ?_ _) | (with_reducible refine pw_below_drewN ?_ _)))) gw none) (.inl rfl)).trans hk (.inl rfl)); have HS9 := Aside0.mk ((hk.2 gs (blk_lt (blk_below HS6.out (by (repeat (first | exact HB86.out | exact Below.refl _ _ | (with_reducible refine below_drew1 ?_) | (with_reducible refine below_alloc ?_ _) | (with_reducible refine pw_below_drewN ?_ _)))))) (by have := GS.out; omega) (by simp)).trans (blk_below HS6.out (by (repeat (first | exact HB86.out | exact Below.refl _ _ | (with_reducible refine below_drew1 ?_) | (with_reducible refine below_alloc ?_ _) | (with_reducible refine pw_below_drewN ?_ _)))))); have HN9 := Aside0.mk (spec_l03Open_from.keepC hk (Kd.C_below HN6.out (by (repeat (first | exact HB86.out | exact Below.refl _ _ | (with_reducible refine below_drew1 ?_) | (with_reducible refine below_alloc ?_ _) | (with_reducible refine pw_below_drewN ?_ _))))) HNE.out); have HT9 : Aside0 (∀ j : Nat, w'.cell? ⟨gn, j, none⟩ = w6.cell? ⟨gn, j, none⟩) := ⟨fun j => (World.cell?_of_block (hk.2 gn (blk_lt (blk_below HX7.out (by (repeat (first | exact HB86.out | exact Below.refl _ _ | (with_reducible refine below_drew1 ?_) | (with_reducible refine below_alloc ?_ _) | (with_reducible refine pw_below_drewN ?_ _)))))) (by have := GN.out; omega) (by simp))).trans (Below.cell (show Below w6.heap.size w6 _ from by (repeat (first | exact HB86.out | exact Below.refl _ _ | (with_reducible refine below_drew1 ?_) | (with_reducible refine below_alloc ?_ _) | (with_reducible refine pw_below_drewN ?_ _)))) hlt6)⟩; clear hk hI))
                      all_goals
                        clear HX7 HI6 HS6 KP6 HN6
                        have HL := HR.out
                        have hwx : wrap64 (x + 1) = x + 1 := by unfold wrap64; omega
                        rw [hwx] at HL
                        have HLA := Aside0.mk HL
                        clear HL HR hwx
                        go_wp2
                        go_roundg g
                        case measure => omega
                        case rel => exact ⟨_, B2, m2, fd2, _, rfl, HLA, ⟨by have := HK.out; omega⟩, HI9, KP9, HS9, HN9⟩
                    | false =>
                      rw [if_neg Bool.false_ne_true] at hput
                      have HP := Aside0.mk hput
                      clear hput
                      go_upto_region 15 with (first | (go_at_call 143; refine (spec_l00Has.calls g An cn N x false _ HN2.out HCN.out HHS.out).mono ?_; rintro e w' ⟨rfl, ⟨nd, rfl⟩⟩; have HI3 := Aside0.mk (HI2.out.drew nd); have KP3 := Aside0.mk (KP2.out.trans (KeepBut.of_below (pw_below_drewN (Below.refl _ _) nd) gw none) (.inl rfl)); have HS3 := Aside0.mk (blk_drewN HS2.out nd); have HN3 := Aside0.mk (Kd.C_below HN2.out (pw_below_drewN (Below.refl _ _) nd)); have hs0 : (wr.drewN nd).cell? ⟨gs, 0, none⟩ = some (.int .i64 s0) := (blk_cell HS3.out 0).trans rfl; have hs1 : (wr.drewN nd).cell? ⟨gs, 1, none⟩ = some (.int .i64 s1) := (blk_cell HS3.out 1).trans rfl; have hs2 : (wr.drewN nd).cell? ⟨gs, 2, none⟩ = some (.int .i64 s2) := (blk_cell HS3.out 2).trans rfl; have hs3 : (wr.drewN nd).cell? ⟨gs, 3, none⟩ = some (.int .i64 s3) := (blk_cell HS3.out 3).trans rfl; have hs4 : (wr.drewN nd).cell? ⟨gs, 4, none⟩ = some (.int .i64 s4) := (blk_cell HS3.out 4).trans rfl; have hs5 : (wr.drewN nd).cell? ⟨gs, 5, none⟩ = some (.int .i64 s5) := (blk_cell HS3.out 5).trans rfl; have hs6 : (wr.drewN nd).cell? ⟨gs, 6, none⟩ = some (.int .i64 s6) := (blk_cell HS3.out 6).trans rfl; have hs7 : (wr.drewN nd).cell? ⟨gs, 7, none⟩ = some (.int .i64 s7) := (blk_cell HS3.out 7).trans rfl; have hs8 : (wr.drewN nd).cell? ⟨gs, 8, none⟩ = some (.int .i64 s8) := (blk_cell HS3.out 8).trans rfl; have hs9 : (wr.drewN nd).cell? ⟨gs, 9, none⟩ = some (.int .i64 s9) := (blk_cell HS3.out 9).trans rfl; clear HI2 KP2 HS2 HN2 hp1 hcx; generalize wr.drewN nd = w2 at *) | ((with_reducible refine gate_dst (N := 11) rfl ?_); refine box_event ?hg (N := 11) ?hd (cs := #[.int .i64 0, .int .i64 0, .int .i64 0, .int .i64 0, .int .i64 0, .int .i64 0, .int .i64 0, .int .i64 0, .int .i64 0, .int .i64 0]) (t := 122) ?hr ?_; (case hd => rfl); (case hg => rfl); (case hr => first | (go_simp; done) | (go_simp; rfl)); intro gn hgn w3 hn3 hbb; have HB3 := Aside0.mk hbb; have HX3 := Aside0.mk hn3; have GN := Aside0.mk (show gw < gn ∧ gs < gn ∧ w2.heap.size ≤ gn from by rw [hgn]; exact ⟨blk_lt HI3.out.h, blk_lt HS3.out, Nat.le_refl _⟩); clear hn3 hbb hgn; have hn0 : w3.cell? ⟨gn, 0, none⟩ = some (.int .i64 0) := (blk_cell HX3.out 0).trans rfl; have hf0 := blk_frozen HX3.out 0; have hn1 : w3.cell? ⟨gn, 1, none⟩ = some (.int .i64 0) := (blk_cell HX3.out 1).trans rfl; have hf1 := blk_frozen HX3.out 1; have hn2 : w3.cell? ⟨gn, 2, none⟩ = some (.int .i64 0) := (blk_cell HX3.out 2).trans rfl; have hf2 := blk_frozen HX3.out 2; have hn3 : w3.cell? ⟨gn, 3, none⟩ = some (.int .i64 0) := (blk_cell HX3.out 3).trans rfl; have hf3 := blk_frozen HX3.out 3; have hn4 : w3.cell? ⟨gn, 4, none⟩ = some (.int .i64 0) := (blk_cell HX3.out 4).trans rfl; have hf4 := blk_frozen HX3.out 4; have hn5 : w3.cell? ⟨gn, 5, none⟩ = some (.int .i64 0) := (blk_cell HX3.out 5).trans rfl; have hf5 := blk_frozen HX3.out 5; have hn6 : w3.cell? ⟨gn, 6, none⟩ = some (.int .i64 0) := (blk_cell HX3.out 6).trans rfl; have hf6 := blk_frozen HX3.out 6; have hn7 : w3.cell? ⟨gn, 7, none⟩ = some (.int .i64 0) := (blk_cell HX3.out 7).trans rfl; have hf7 := blk_frozen HX3.out 7; have hn8 : w3.cell? ⟨gn, 8, none⟩ = some (.int .i64 0) := (blk_cell HX3.out 8).trans rfl; have hf8 := blk_frozen HX3.out 8; have hn9 : w3.cell? ⟨gn, 9, none⟩ = some (.int .i64 0) := (blk_cell HX3.out 9).trans rfl; have hf9 := blk_frozen HX3.out 9))
                      have SX := spec_l03Open_from.ten HX3.out s0 s1 s2 s3 s4 s5 s6 s7 s8 s9
                      have HI4 := Aside0.mk (HI3.out.next HB3.out)
                      have HS4 := Aside0.mk (blk_below HS3.out HB3.out)
                      have KP4 := Aside0.mk (KP3.out.trans (KeepBut.of_below HB3.out gw none) (.inl rfl))
                      clear hn0 hf0 hs0 hn1 hf1 hs1 hn2 hf2 hs2 hn3 hf3 hs3 hn4 hf4 hs4 hn5 hf5 hs5 hn6 hf6 hs6 hn7 hf7 hs7 hn8 hf8 hs8 hn9 hf9 hs9
                      generalize ((((((((((w3.setCell ⟨gn, 0, none⟩ (.int .i64 s0)).setCell ⟨gn, 1, none⟩ (.int .i64 s1)).setCell ⟨gn, 2, none⟩ (.int .i64 s2)).setCell ⟨gn, 3, none⟩ (.int .i64 s3)).setCell ⟨gn, 4, none⟩ (.int .i64 s4)).setCell ⟨gn, 5, none⟩ (.int .i64 s5)).setCell ⟨gn, 6, none⟩ (.int .i64 s6)).setCell ⟨gn, 7, none⟩ (.int .i64 s7)).setCell ⟨gn, 8, none⟩ (.int .i64 s8)).setCell ⟨gn, 9, none⟩ (.int .i64 s9)) = w4 at SX ⊢
                      obtain ⟨hx4, hk4, hb4⟩ := SX
                      have HX4 := Aside0.mk hx4
                      have NV := Aside0.mk (show some gn ≠ vB1.ownBlock from fun e => by have := Kd.R_lt HI3.out.rb gn e.symm; have := GN.out; omega)
                      have HI5 := Aside0.mk (HI4.out.keep hk4 (hb4 w HI4.out.b (by have := GN.out; have := HI3.out.b.size; omega)) (by have := GN.out; omega) NV.out)
                      have HS5 := Aside0.mk ((hk4.2 gs (blk_lt HS4.out) (by have := GN.out; omega) (by simp)).trans HS4.out)
                      have K5 := Aside0.mk hk4
                      have SZ3 := Aside0.mk HI3.out.b.size
                      clear hx4 hk4 hb4 HI4 HS4 HI3
                      have hcx5 := spec_l03Open_from.cell HX4.out x g1 (by simp; omega)
                      have hfx5 := blk_frozen HX4.out x.toNat
                      go_upto_region 16 with (fail)
                      have HX6 : Aside0 ((w4.setCell ⟨gn, x.toNat, none⟩ (.int .i64 (wrap64 (rd [s0, s1, s2, s3, s4, s5, s6, s7, s8, s9] x - rd D (N.length : Int))))).heap[gn]? = some (.cells ((([s0, s1, s2, s3, s4, s5, s6, s7, s8, s9] : List Int).set x.toNat (wrap64 (rd [s0, s1, s2, s3, s4, s5, s6, s7, s8, s9] x - rd D (N.length : Int)))).map (Value.int .i64)).toArray 122 (0, 0))) := ⟨blk_put (cs := (([s0, s1, s2, s3, s4, s5, s6, s7, s8, s9] : List Int).map (Value.int .i64)).toArray) HX4.out x.toNat _ (by rw [List.map_set]; simp)⟩
                      have K6 := Aside0.mk (K5.out.set_ x.toNat (.int .i64 (wrap64 (rd [s0, s1, s2, s3, s4, s5, s6, s7, s8, s9] x - rd D (N.length : Int)))))
                      have HI6 := Aside0.mk (HI5.out.keep ((KeepBut.refl w4 gn none).set_ x.toNat (.int .i64 (wrap64 (rd [s0, s1, s2, s3, s4, s5, s6, s7, s8, s9] x - rd D (N.length : Int))))) (below_set HI5.out.b (by have := GN.out; have := SZ3.out; omega)) (by have := GN.out; omega) NV.out)
                      have HS6 := Aside0.mk (blk_far HS5.out (p := ⟨gn, x.toNat, none⟩) (by have := GN.out; show gs ≠ gn; omega) (.int .i64 (wrap64 (rd [s0, s1, s2, s3, s4, s5, s6, s7, s8, s9] x - rd D (N.length : Int)))))
                      clear hcx5 hfx5 HX4 HI5 HS5 K5
                      obtain ⟨t0, t1, t2, t3, t4, t5, t6, t7, t8, t9, hT⟩ : ∃ a b c d e f a2 b2 c2 d2, ([s0, s1, s2, s3, s4, s5, s6, s7, s8, s9] : List Int).set x.toNat (wrap64 (rd [s0, s1, s2, s3, s4, s5, s6, s7, s8, s9] x - rd D (N.length : Int))) = [a, b, c, d, e, f, a2, b2, c2, d2] := by
                        match ([s0, s1, s2, s3, s4, s5, s6, s7, s8, s9] : List Int).set x.toNat (wrap64 (rd [s0, s1, s2, s3, s4, s5, s6, s7, s8, s9] x - rd D (N.length : Int))), (List.length_set : (([s0, s1, s2, s3, s4, s5, s6, s7, s8, s9] : List Int).set x.toNat (wrap64 (rd [s0, s1, s2, s3, s4, s5, s6, s7, s8, s9] x - rd D (N.length : Int)))).length = _) with
                        | [a, b, c, d, e, f, a2, b2, c2, d2], _ => exact ⟨a, b, c, d, e, f, a2, b2, c2, d2, rfl⟩
                      have HP2 := HP.out
                      rw [hT] at HP2
                      have HX62 := HX6.out
                      rw [hT] at HX62
                      generalize w4.setCell ⟨gn, x.toNat, none⟩ (.int .i64 (wrap64 (rd [s0, s1, s2, s3, s4, s5, s6, s7, s8, s9] x - rd D (N.length : Int)))) = w6 at *
                      have HP3 := Aside0.mk HP2
                      have HX7 := Aside0.mk HX62
                      clear HP2 HX62 HX6 HP hT
                      have HN6 := Aside0.mk (spec_l03Open_from.keepN HN3.out HB3.out K6.out GN.out.2.2)
                      have KP6 : Aside0 (KeepBut W w6 gw none) := ⟨⟨Nat.le_trans KP4.out.1 K6.out.1, fun i hi hne hr => (K6.out.2 i (Nat.lt_of_lt_of_le hi KP4.out.1) (by have := GN.out; have := KP3.out.1; omega) hr).trans (KP4.out.2 i hi hne hr)⟩⟩
                      clear K6 HB3 HN3 KP3 HS3 KP4 HX3
                      have hr6 : w6.rangeAt gn 0 [.int .i64 t0, .int .i64 t1, .int .i64 t2, .int .i64 t3, .int .i64 t4, .int .i64 t5, .int .i64 t6, .int .i64 t7, .int .i64 t8, .int .i64 t9] := by
                        intro j v hv
                        rw [Nat.zero_add, blk_cell HX7.out j]
                        simpa using hv
                      have hsz : (Try.prog.info? 122).map (·.size) = some 10 := spec_l03Open_from.size10
                      have hlt6 : gn < w6.heap.size := blk_lt HX7.out
                      go_region_held3 (fun w' => w'.rangeAt gn 0 [.int .i64 t0, .int .i64 t1, .int .i64 t2, .int .i64 t3, .int .i64 t4, .int .i64 t5, .int .i64 t6, .int .i64 t7, .int .i64 t8, .int .i64 t9]) (((repeat (first | (with_reducible exact hr6) | (with_reducible refine spec_l03Open_from.keepRD ?_) | (with_reducible refine World.rangeAt_alloc ?_ _) | (with_reducible refine spec_l03Open_from.keepRN ?_) | (with_reducible refine spec_l03Open_from.keepRT HT9.out ?_) | (with_reducible refine spec_l03Open_from.keepRB HB86.out hlt6 ?_) | (with_reducible refine spec_l03Open_from.keepRB HB83.out hlt6 ?_))))) (first | (refine spec_l03Open_from.app (w0 := w6) ?hw (.tmp 81) (.tmp 82) rfl (.slice (some ⟨w6.heap.size, 0, none⟩) 0 0) [] N _ _ _ rfl rfl ?aO ?aR ?aB ?aL ?_; (case hw => rfl); (case aO => (refine spec_l03Open_from.lit [] ?_ ?_ (Nat.zero_le _)); ((repeat (first | exact spec_l03Open_from.top rfl | exact spec_l03Open_from.top (by simp) | (with_reducible refine blk_drew ?_) | (with_reducible refine blk_alloc ?_ _)))); (omega)); (case aR => (refine Kd.C_below HN6.out ?_); (repeat (first | exact Below.refl _ _ | (with_reducible refine below_drew1 ?_) | (with_reducible refine below_alloc ?_ _) | (with_reducible refine pw_below_drewN ?_ _)))); (case aB => (repeat (first | exact Below.refl _ _ | (with_reducible refine below_drew1 ?_) | (with_reducible refine below_alloc ?_ _) | (with_reducible refine pw_below_drewN ?_ _)))); (case aL => simp; omega); intro v83 w83 ho hb hg; rw [List.nil_append] at ho; have HO83 := Aside0.mk ho; have HB83 := Aside0.mk hb; have HG83 := Aside0.mk hg; clear ho hb hg) | (refine spec_l03Open_from.app (w0 := w6) ?hw (.tmp 81) (.tmp 82) rfl (.slice (some ⟨w6.heap.size + 1, 0, none⟩) 0 0) [] N _ _ _ rfl rfl ?aO ?aR ?aB ?aL ?_; (case hw => rfl); (case aO => (refine spec_l03Open_from.lit [] ?_ ?_ (Nat.zero_le _)); ((repeat (first | exact spec_l03Open_from.top rfl | exact spec_l03Open_from.top (by simp) | (with_reducible refine blk_drew ?_) | (with_reducible refine blk_alloc ?_ _)))); (omega)); (case aR => (refine Kd.C_below HN6.out ?_); (repeat (first | exact Below.refl _ _ | (with_reducible refine below_drew1 ?_) | (with_reducible refine below_alloc ?_ _) | (with_reducible refine pw_below_drewN ?_ _)))); (case aB => (repeat (first | exact Below.refl _ _ | (with_reducible refine below_drew1 ?_) | (with_reducible refine below_alloc ?_ _) | (with_reducible refine pw_below_drewN ?_ _)))); (case aL => simp; omega); intro v83 w83 ho hb hg; rw [List.nil_append] at ho; have HO83 := Aside0.mk ho; have HB83 := Aside0.mk hb; have HG83 := Aside0.mk hg; clear ho hb hg) | (refine spec_l03Open_from.app (w0 := w6) ?hw (.tmp 83) (.tmp 85) rfl v83 N [x] _ _ _ rfl rfl ?bO ?bR ?bB ?bL ?_; (case hw => rfl); (case bO => (refine Kd.R_below HO83.out ?_); (repeat (first | exact Below.refl _ _ | (with_reducible refine below_drew1 ?_) | (with_reducible refine below_alloc ?_ _) | (with_reducible refine pw_below_drewN ?_ _)))); (case bR => (refine (Kd.R_reads' (spec_l03Open_from.lit (base := 0) [x] ?_ (Nat.zero_le _) (by simp))).2.2); ((repeat (first | exact spec_l03Open_from.top rfl | exact spec_l03Open_from.top (by simp) | (with_reducible refine blk_drew ?_) | (with_reducible refine blk_alloc ?_ _))); done)); (case bB => (repeat (first | exact HB83.out | exact Below.refl _ _ | (with_reducible refine below_drew1 ?_) | (with_reducible refine below_alloc ?_ _) | (with_reducible refine pw_below_drewN ?_ _)))); (case bL => simp; omega); intro v86 w86 ho hb hg; have HO86 := Aside0.mk ho; have HB86 := Aside0.mk hb; clear ho hb hg) | (refine spec_l03Open_from.app (w0 := w6) ?hw (.tmp 83) (.tmp 85) rfl v83 N [x] _ _ _ rfl rfl ?bO ?bR ?bB ?bL ?_; (case hw => rfl); (case bO => (refine Kd.R_below HO83.out ?_); (repeat (first | exact Below.refl _ _ | (with_reducible refine below_drew1 ?_) | (with_reducible refine below_alloc ?_ _) | (with_reducible refine pw_below_drewN ?_ _)))); (case bR => (refine (Kd.R_reads' (spec_l03Open_from.lit (base := 0) [x] ?_ (Nat.zero_le _) (by simp))).2.2); ((repeat (with_reducible refine blk_drew ?_)); (refine (HG83.out.block _ ?_ ?_).trans ?_); rotate_left 2; ((repeat (first | exact spec_l03Open_from.top rfl | exact spec_l03Open_from.top (by simp) | (with_reducible refine blk_drew ?_) | (with_reducible refine blk_alloc ?_ _)))); (focus (first | (simp; done) | (simp; omega) | trace_state)); (focus (first | (simp [Value.ownBlock]; done) | (simp [Value.ownBlock]; omega) | trace_state)))); (case bB => (repeat (first | exact HB83.out | exact Below.refl _ _ | (with_reducible refine below_drew1 ?_) | (with_reducible refine below_alloc ?_ _) | (with_reducible refine pw_below_drewN ?_ _)))); (case bL => simp; omega); intro v86 w86 ho hb hg; have HO86 := Aside0.mk ho; have HB86 := Aside0.mk hb; clear ho hb hg) | (go_at_call 96; obtain ⟨A7, c7, e7, hc7, hC7⟩ := Kd.R_reads HO86.out; subst e7; refine (IHa.out g (by have := HK.out; omega) A7 c7 (N ++ [x]) [t0, t1, t2, t3, t4, t5, t6, t7, t8, t9] (wrap64 (mo + 1)) B1 m1 fd1 vB1 _ B2 m2 fd2 (HI6.out.next (by (repeat (first | exact HB86.out | exact Below.refl _ _ | (with_reducible refine below_drew1 ?_) | (with_reducible refine below_alloc ?_ _) | (with_reducible refine pw_below_drewN ?_ _))))) (Kd.C_below hC7 (by (repeat (first | exact Below.refl _ _ | (with_reducible refine below_drew1 ?_) | (with_reducible refine below_alloc ?_ _) | (with_reducible refine pw_below_drewN ?_ _))))) hc7 (fun ad e => by subst e; have q := Kd.R_base HO86.out ad.block rfl; have := blk_lt HX7.out; have := GN.out; omega) rfl HP3.out).mono ?_; rintro e w' ⟨rfl, hk, vB2, hI⟩; have HI9 := Aside0.mk hI; have KP9 := Aside0.mk ((KP6.out.trans (KeepBut.of_below (by (repeat (first | exact HB86.out | exact Below.refl _ _ | (with_reducible refine below_drew1 ?_) | (with_reducible refine below_alloc ?_ _) | (with_reducible refine pw_below_drewN ?_ _)))) gw none) (.inl rfl)).trans hk (.inl rfl)); have HS9 := Aside0.mk ((hk.2 gs (blk_lt (blk_below HS6.out (by (repeat (first | exact HB86.out | exact Below.refl _ _ | (with_reducible refine below_drew1 ?_) | (with_reducible refine below_alloc ?_ _) | (with_reducible refine pw_below_drewN ?_ _)))))) (by have := GS.out; omega) (by simp)).trans (blk_below HS6.out (by (repeat (first | exact HB86.out | exact Below.refl _ _ | (with_reducible refine below_drew1 ?_) | (with_reducible refine below_alloc ?_ _) | (with_reducible refine pw_below_drewN ?_ _)))))); have HN9 := Aside0.mk (spec_l03Open_from.keepC hk (Kd.C_below HN6.out (by (repeat (first | exact HB86.out | exact Below.refl _ _ | (with_reducible refine below_drew1 ?_) | (with_reducible refine below_alloc ?_ _) | (with_reducible refine pw_below_drewN ?_ _))))) HNE.out); have HT9 : Aside0 (∀ j : Nat, w'.cell? ⟨gn, j, none⟩ = w6.cell? ⟨gn, j, none⟩) := ⟨fun j => (World.cell?_of_block (hk.2 gn (blk_lt (blk_below HX7.out (by (repeat (first | exact HB86.out | exact Below.refl _ _ | (with_reducible refine below_drew1 ?_) | (with_reducible refine below_alloc ?_ _) | (with_reducible refine pw_below_drewN ?_ _)))))) (by have := GN.out; omega) (by simp))).trans (Below.cell (show Below w6.heap.size w6 _ from by (repeat (first | exact HB86.out | exact Below.refl _ _ | (with_reducible refine below_drew1 ?_) | (with_reducible refine below_alloc ?_ _) | (with_reducible refine pw_below_drewN ?_ _)))) hlt6)⟩; clear hk hI))
                      all_goals
                        clear HX7 HI6 HS6 KP6 HN6
                        have HL := HR.out
                        have hwx : wrap64 (x + 1) = x + 1 := by unfold wrap64; omega
                        rw [hwx] at HL
                        have HLA := Aside0.mk HL
                        clear HL HR hwx
                        go_wp2
                        go_roundg g
                        case measure => omega
                        case rel => exact ⟨_, B2, m2, fd2, _, rfl, HLA, ⟨by have := HK.out; omega⟩, HI9, KP9, HS9, HN9⟩
                · rw [if_neg hg] at H; cases H
              · rw [if_neg hx] at H
                have e := Option.some.inj H
                simp only [Prod.mk.injEq] at e
                obtain ⟨rfl, rfl, rfl⟩ := e
                clear H
                go_wp2
                refine bodyPost_end (results_none rfl _ _ _) rfl ⟨rfl, KP2.out, vB1, HI2.out⟩
        | true =>
          have hmm : ¬ m ≤ mo := fun z => h1 ⟨rfl, z⟩
          have d3 : decide (m ≤ mo) = false := decide_eq_false hmm
          clear h1 hmm
          go_enter Try.func96, Try.ntmps96
          go_wp2_with (first | ((with_reducible refine gate_dst (N := 6) rfl ?_); refine box_event ?hg (N := 6) ?hd (cs := #[.int .i64 s0, .int .i64 s1, .int .i64 s2, .int .i64 s3, .int .i64 s4, .int .i64 s5, .int .i64 s6, .int .i64 s7, .int .i64 s8, .int .i64 s9]) (t := 122) ?hr ?_; (case hd => rfl); (case hg => rfl); (case hr => first | (go_simp; done) | (go_simp; rfl)); intro gs hgs W1 hs1 hbb; have HS := Aside0.mk hs1; have HI1 := Aside0.mk (HI.out.next hbb); have HN1 := Aside0.mk (Kd.C_below HN.out hbb); have KP := Aside0.mk (KeepBut.of_below hbb gw none); have GS := Aside0.mk (show gw < gs ∧ W.heap.size ≤ gs from by rw [hgs]; exact ⟨blk_lt HI.out.h, Nat.le_refl _⟩); clear HI HN hs1 hbb hgs; have hq0 : W1.cell? ⟨gw, 0, none⟩ = some (.slice A0 D.length c0) := (blk_cell HI1.out.h 0).trans rfl; have hq1 : W1.cell? ⟨gw, 11, none⟩ = some (.int .i64 n) := (blk_cell HI1.out.h 11).trans rfl; have hq3 : W1.cell? ⟨gw, 13, none⟩ = some (.int .i64 m) := (blk_cell HI1.out.h 13).trans rfl; have hq4 : W1.cell? ⟨gw, 14, none⟩ = some (.bool true) := (blk_cell HI1.out.h 14).trans rfl; obtain ⟨adn, en, hnc⟩ := Kd.at_int (Kd.C_below HCC.out HI1.out.b) (N.length : Int) gn0 gnl; cases en; rw [Int.toNat_natCast] at hnc))
          clear hq0 hq1 hq3 hq4 hnc
          go_loopg [9] k (fun gq v9 W2 => ∃ (x : Int) (B1 : List Int) (m1 : Int) (fd1 : Bool) (vB1 : Value), v9 = .int .i64 x ∧ Aside0 (spec_l03Open_from.l0 D n gq N [s0, s1, s2, s3, s4, s5, s6, s7, s8, s9] mo x B1 m1 fd1 = some (r1, r2, r3)) ∧ Aside0 (gq ≤ k) ∧ Aside0 (spec_l03Open_from.Inv w W2 gw (some adn) c0 D n q0 q1 q2 q3 q4 q5 q6 q7 q8 q9 B1 m1 fd1 vB1) ∧ Aside0 (KeepBut W W2 gw none) ∧ Aside0 (W2.heap[gs]? = some (.cells #[.int .i64 s0, .int .i64 s1, .int .i64 s2, .int .i64 s3, .int .i64 s4, .int .i64 s5, .int .i64 s6, .int .i64 s7, .int .i64 s8, .int .i64 s9] 122 (0, 0))) ∧ Aside0 (Kd.C (Kd.int .i64) W2 An N.length N))
          case atStart => exact ⟨0, B, m, _, vB, rfl, HL, ⟨Nat.le_refl _⟩, HI1, KP, HS, HN1⟩
          case round =>
            clear HL HI1 KP HS HN1
            obtain ⟨x, B1, m1, fd1, vB1, rfl, HL, HK, HI2, KP2, HS2, HN2⟩ := hrel
            cases gk with
            | zero => exact absurd HL.out (by simp [spec_l03Open_from.l0])
            | succ g =>
              have H := HL.out
              rw [spec_l03Open_from.l0] at H
              clear HL
              have hp1 : wr.cell? ⟨gw, 11, none⟩ = some (.int .i64 n) := (blk_cell HI2.out.h 11).trans rfl
              by_cases hx : x < n
              · rw [if_pos hx] at H
                by_cases hg : 0 ≤ x ∧ x < 10 ∧ N.length ≤ 1048576
                · rw [if_pos hg] at H
                  obtain ⟨g1, g2, g4⟩ := hg
                  have hcx : wr.cell? ⟨gs, x.toNat, none⟩ = some (.int .i64 (rd [s0, s1, s2, s3, s4, s5, s6, s7, s8, s9] x)) := spec_l03Open_from.cell (S := [s0, s1, s2, s3, s4, s5, s6, s7, s8, s9]) HS2.out x g1 (by simp; omega)
                  have gx6 : (x : Int) < 10 := g2
                  by_cases hlt : rd [s0, s1, s2, s3, s4, s5, s6, s7, s8, s9] x < rd D (N.length : Int)
                  · rw [if_pos hlt] at H
                    have HL := Aside0.mk H
                    have hwx : wrap64 (x + 1) = x + 1 := by unfold wrap64; omega
                    rw [hwx] at HL
                    have q1 : decide (rd [s0, s1, s2, s3, s4, s5, s6, s7, s8, s9] x < rd D (N.length : Int)) = true := decide_eq_true hlt
                    clear H hlt hwx
                    go_wp2
                    go_roundg g
                    case measure => omega
                    case rel => exact ⟨_, B1, m1, fd1, vB1, rfl, HL, ⟨by have := HK.out; omega⟩, HI2, KP2, HS2, HN2⟩
                  · rw [if_neg hlt] at H
                    obtain ⟨has, hhas, H⟩ := Option.bind_eq_some_iff.mp H
                    obtain ⟨⟨B2, m2, fd2⟩, hput, H⟩ := Option.bind_eq_some_iff.mp H
                    simp only at H
                    have HHS := Aside0.mk hhas
                    have HR := Aside0.mk H
                    have q1 : decide (rd [s0, s1, s2, s3, s4, s5, s6, s7, s8, s9] x < rd D (N.length : Int)) = false := decide_eq_false hlt
                    clear H hhas hlt
                    cases has with
                    | true =>
                      rw [if_pos rfl] at hput
                      have HP := Aside0.mk hput
                      clear hput
                      go_upto_region 15 with (first | (go_at_call 143; refine (spec_l00Has.calls g An cn N x true _ HN2.out HCN.out HHS.out).mono ?_; rintro e w' ⟨rfl, ⟨nd, rfl⟩⟩; have HI3 := Aside0.mk (HI2.out.drew nd); have KP3 := Aside0.mk (KP2.out.trans (KeepBut.of_below (pw_below_drewN (Below.refl _ _) nd) gw none) (.inl rfl)); have HS3 := Aside0.mk (blk_drewN HS2.out nd); have HN3 := Aside0.mk (Kd.C_below HN2.out (pw_below_drewN (Below.refl _ _) nd)); have hs0 : (wr.drewN nd).cell? ⟨gs, 0, none⟩ = some (.int .i64 s0) := (blk_cell HS3.out 0).trans rfl; have hs1 : (wr.drewN nd).cell? ⟨gs, 1, none⟩ = some (.int .i64 s1) := (blk_cell HS3.out 1).trans rfl; have hs2 : (wr.drewN nd).cell? ⟨gs, 2, none⟩ = some (.int .i64 s2) := (blk_cell HS3.out 2).trans rfl; have hs3 : (wr.drewN nd).cell? ⟨gs, 3, none⟩ = some (.int .i64 s3) := (blk_cell HS3.out 3).trans rfl; have hs4 : (wr.drewN nd).cell? ⟨gs, 4, none⟩ = some (.int .i64 s4) := (blk_cell HS3.out 4).trans rfl; have hs5 : (wr.drewN nd).cell? ⟨gs, 5, none⟩ = some (.int .i64 s5) := (blk_cell HS3.out 5).trans rfl; have hs6 : (wr.drewN nd).cell? ⟨gs, 6, none⟩ = some (.int .i64 s6) := (blk_cell HS3.out 6).trans rfl; have hs7 : (wr.drewN nd).cell? ⟨gs, 7, none⟩ = some (.int .i64 s7) := (blk_cell HS3.out 7).trans rfl; have hs8 : (wr.drewN nd).cell? ⟨gs, 8, none⟩ = some (.int .i64 s8) := (blk_cell HS3.out 8).trans rfl; have hs9 : (wr.drewN nd).cell? ⟨gs, 9, none⟩ = some (.int .i64 s9) := (blk_cell HS3.out 9).trans rfl; clear HI2 KP2 HS2 HN2 hp1 hcx; generalize wr.drewN nd = w2 at *) | ((with_reducible refine gate_dst (N := 11) rfl ?_); refine box_event ?hg (N := 11) ?hd (cs := #[.int .i64 0, .int .i64 0, .int .i64 0, .int .i64 0, .int .i64 0, .int .i64 0, .int .i64 0, .int .i64 0, .int .i64 0, .int .i64 0]) (t := 122) ?hr ?_; (case hd => rfl); (case hg => rfl); (case hr => first | (go_simp; done) | (go_simp; rfl)); intro gn hgn w3 hn3 hbb; have HB3 := Aside0.mk hbb; have HX3 := Aside0.mk hn3; have GN := Aside0.mk (show gw < gn ∧ gs < gn ∧ w2.heap.size ≤ gn from by rw [hgn]; exact ⟨blk_lt HI3.out.h, blk_lt HS3.out, Nat.le_refl _⟩); clear hn3 hbb hgn; have hn0 : w3.cell? ⟨gn, 0, none⟩ = some (.int .i64 0) := (blk_cell HX3.out 0).trans rfl; have hf0 := blk_frozen HX3.out 0; have hn1 : w3.cell? ⟨gn, 1, none⟩ = some (.int .i64 0) := (blk_cell HX3.out 1).trans rfl; have hf1 := blk_frozen HX3.out 1; have hn2 : w3.cell? ⟨gn, 2, none⟩ = some (.int .i64 0) := (blk_cell HX3.out 2).trans rfl; have hf2 := blk_frozen HX3.out 2; have hn3 : w3.cell? ⟨gn, 3, none⟩ = some (.int .i64 0) := (blk_cell HX3.out 3).trans rfl; have hf3 := blk_frozen HX3.out 3; have hn4 : w3.cell? ⟨gn, 4, none⟩ = some (.int .i64 0) := (blk_cell HX3.out 4).trans rfl; have hf4 := blk_frozen HX3.out 4; have hn5 : w3.cell? ⟨gn, 5, none⟩ = some (.int .i64 0) := (blk_cell HX3.out 5).trans rfl; have hf5 := blk_frozen HX3.out 5; have hn6 : w3.cell? ⟨gn, 6, none⟩ = some (.int .i64 0) := (blk_cell HX3.out 6).trans rfl; have hf6 := blk_frozen HX3.out 6; have hn7 : w3.cell? ⟨gn, 7, none⟩ = some (.int .i64 0) := (blk_cell HX3.out 7).trans rfl; have hf7 := blk_frozen HX3.out 7; have hn8 : w3.cell? ⟨gn, 8, none⟩ = some (.int .i64 0) := (blk_cell HX3.out 8).trans rfl; have hf8 := blk_frozen HX3.out 8; have hn9 : w3.cell? ⟨gn, 9, none⟩ = some (.int .i64 0) := (blk_cell HX3.out 9).trans rfl; have hf9 := blk_frozen HX3.out 9))
                      have SX := spec_l03Open_from.ten HX3.out s0 s1 s2 s3 s4 s5 s6 s7 s8 s9
                      have HI4 := Aside0.mk (HI3.out.next HB3.out)
                      have HS4 := Aside0.mk (blk_below HS3.out HB3.out)
                      have KP4 := Aside0.mk (KP3.out.trans (KeepBut.of_below HB3.out gw none) (.inl rfl))
                      clear hn0 hf0 hs0 hn1 hf1 hs1 hn2 hf2 hs2 hn3 hf3 hs3 hn4 hf4 hs4 hn5 hf5 hs5 hn6 hf6 hs6 hn7 hf7 hs7 hn8 hf8 hs8 hn9 hf9 hs9
                      generalize ((((((((((w3.setCell ⟨gn, 0, none⟩ (.int .i64 s0)).setCell ⟨gn, 1, none⟩ (.int .i64 s1)).setCell ⟨gn, 2, none⟩ (.int .i64 s2)).setCell ⟨gn, 3, none⟩ (.int .i64 s3)).setCell ⟨gn, 4, none⟩ (.int .i64 s4)).setCell ⟨gn, 5, none⟩ (.int .i64 s5)).setCell ⟨gn, 6, none⟩ (.int .i64 s6)).setCell ⟨gn, 7, none⟩ (.int .i64 s7)).setCell ⟨gn, 8, none⟩ (.int .i64 s8)).setCell ⟨gn, 9, none⟩ (.int .i64 s9)) = w4 at SX ⊢
                      obtain ⟨hx4, hk4, hb4⟩ := SX
                      have HX4 := Aside0.mk hx4
                      have NV := Aside0.mk (show some gn ≠ vB1.ownBlock from fun e => by have := Kd.R_lt HI3.out.rb gn e.symm; have := GN.out; omega)
                      have HI5 := Aside0.mk (HI4.out.keep hk4 (hb4 w HI4.out.b (by have := GN.out; have := HI3.out.b.size; omega)) (by have := GN.out; omega) NV.out)
                      have HS5 := Aside0.mk ((hk4.2 gs (blk_lt HS4.out) (by have := GN.out; omega) (by simp)).trans HS4.out)
                      have K5 := Aside0.mk hk4
                      have SZ3 := Aside0.mk HI3.out.b.size
                      clear hx4 hk4 hb4 HI4 HS4 HI3
                      have hcx5 := spec_l03Open_from.cell HX4.out x g1 (by simp; omega)
                      have hfx5 := blk_frozen HX4.out x.toNat
                      go_upto_region 16 with (fail)
                      have HX6 : Aside0 ((w4.setCell ⟨gn, x.toNat, none⟩ (.int .i64 (wrap64 (rd [s0, s1, s2, s3, s4, s5, s6, s7, s8, s9] x - rd D (N.length : Int))))).heap[gn]? = some (.cells ((([s0, s1, s2, s3, s4, s5, s6, s7, s8, s9] : List Int).set x.toNat (wrap64 (rd [s0, s1, s2, s3, s4, s5, s6, s7, s8, s9] x - rd D (N.length : Int)))).map (Value.int .i64)).toArray 122 (0, 0))) := ⟨blk_put (cs := (([s0, s1, s2, s3, s4, s5, s6, s7, s8, s9] : List Int).map (Value.int .i64)).toArray) HX4.out x.toNat _ (by rw [List.map_set]; simp)⟩
                      have K6 := Aside0.mk (K5.out.set_ x.toNat (.int .i64 (wrap64 (rd [s0, s1, s2, s3, s4, s5, s6, s7, s8, s9] x - rd D (N.length : Int)))))
                      have HI6 := Aside0.mk (HI5.out.keep ((KeepBut.refl w4 gn none).set_ x.toNat (.int .i64 (wrap64 (rd [s0, s1, s2, s3, s4, s5, s6, s7, s8, s9] x - rd D (N.length : Int))))) (below_set HI5.out.b (by have := GN.out; have := SZ3.out; omega)) (by have := GN.out; omega) NV.out)
                      have HS6 := Aside0.mk (blk_far HS5.out (p := ⟨gn, x.toNat, none⟩) (by have := GN.out; show gs ≠ gn; omega) (.int .i64 (wrap64 (rd [s0, s1, s2, s3, s4, s5, s6, s7, s8, s9] x - rd D (N.length : Int)))))
                      clear hcx5 hfx5 HX4 HI5 HS5 K5
                      obtain ⟨t0, t1, t2, t3, t4, t5, t6, t7, t8, t9, hT⟩ : ∃ a b c d e f a2 b2 c2 d2, ([s0, s1, s2, s3, s4, s5, s6, s7, s8, s9] : List Int).set x.toNat (wrap64 (rd [s0, s1, s2, s3, s4, s5, s6, s7, s8, s9] x - rd D (N.length : Int))) = [a, b, c, d, e, f, a2, b2, c2, d2] := by
                        match ([s0, s1, s2, s3, s4, s5, s6, s7, s8, s9] : List Int).set x.toNat (wrap64 (rd [s0, s1, s2, s3, s4, s5, s6, s7, s8, s9] x - rd D (N.length : Int))), (List.length_set : (([s0, s1, s2, s3, s4, s5, s6, s7, s8, s9] : List Int).set x.toNat (wrap64 (rd [s0, s1, s2, s3, s4, s5, s6, s7, s8, s9] x - rd D (N.length : Int)))).length = _) with
                        | [a, b, c, d, e, f, a2, b2, c2, d2], _ => exact ⟨a, b, c, d, e, f, a2, b2, c2, d2, rfl⟩
                      have HP2 := HP.out
                      rw [hT] at HP2
                      have HX62 := HX6.out
                      rw [hT] at HX62
                      generalize w4.setCell ⟨gn, x.toNat, none⟩ (.int .i64 (wrap64 (rd [s0, s1, s2, s3, s4, s5, s6, s7, s8, s9] x - rd D (N.length : Int)))) = w6 at *
                      have HP3 := Aside0.mk HP2
                      have HX7 := Aside0.mk HX62
                      clear HP2 HX62 HX6 HP hT
                      have HN6 := Aside0.mk (spec_l03Open_from.keepN HN3.out HB3.out K6.out GN.out.2.2)
                      have KP6 : Aside0 (KeepBut W w6 gw none) := ⟨⟨Nat.le_trans KP4.out.1 K6.out.1, fun i hi hne hr => (K6.out.2 i (Nat.lt_of_lt_of_le hi KP4.out.1) (by have := GN.out; have := KP3.out.1; omega) hr).trans (KP4.out.2 i hi hne hr)⟩⟩
                      clear K6 HB3 HN3 KP3 HS3 KP4 HX3
                      have hr6 : w6.rangeAt gn 0 [.int .i64 t0, .int .i64 t1, .int .i64 t2, .int .i64 t3, .int .i64 t4, .int .i64 t5, .int .i64 t6, .int .i64 t7, .int .i64 t8, .int .i64 t9] := by
                        intro j v hv
                        rw [Nat.zero_add, blk_cell HX7.out j]
                        simpa using hv
                      have hsz : (Try.prog.info? 122).map (·.size) = some 10 := spec_l03Open_from.size10
                      have hlt6 : gn < w6.heap.size := blk_lt HX7.out
                      go_region_held3 (fun w' => w'.rangeAt gn 0 [.int .i64 t0, .int .i64 t1, .int .i64 t2, .int .i64 t3, .int .i64 t4, .int .i64 t5, .int .i64 t6, .int .i64 t7, .int .i64 t8, .int .i64 t9]) (((repeat (first | (with_reducible exact hr6) | (with_reducible refine spec_l03Open_from.keepRD ?_) | (with_reducible refine World.rangeAt_alloc ?_ _) | (with_reducible refine spec_l03Open_from.keepRN ?_) | (with_reducible refine spec_l03Open_from.keepRT HT9.out ?_) | (with_reducible refine spec_l03Open_from.keepRB HB86.out hlt6 ?_) | (with_reducible refine spec_l03Open_from.keepRB HB83.out hlt6 ?_))))) (first | (refine spec_l03Open_from.app (w0 := w6) ?hw (.tmp 81) (.tmp 82) rfl (.slice (some ⟨w6.heap.size, 0, none⟩) 0 0) [] N _ _ _ rfl rfl ?aO ?aR ?aB ?aL ?_; (case hw => rfl); (case aO => (refine spec_l03Open_from.lit [] ?_ ?_ (Nat.zero_le _)); ((repeat (first | exact spec_l03Open_from.top rfl | exact spec_l03Open_from.top (by simp) | (with_reducible refine blk_drew ?_) | (with_reducible refine blk_alloc ?_ _)))); (omega)); (case aR => (refine Kd.C_below HN6.out ?_); (repeat (first | exact Below.refl _ _ | (with_reducible refine below_drew1 ?_) | (with_reducible refine below_alloc ?_ _) | (with_reducible refine pw_below_drewN ?_ _)))); (case aB => (repeat (first | exact Below.refl _ _ | (with_reducible refine below_drew1 ?_) | (with_reducible refine below_alloc ?_ _) | (with_reducible refine pw_below_drewN ?_ _)))); (case aL => simp; omega); intro v83 w83 ho hb hg; rw [List.nil_append] at ho; have HO83 := Aside0.mk ho; have HB83 := Aside0.mk hb; have HG83 := Aside0.mk hg; clear ho hb hg) | (refine spec_l03Open_from.app (w0 := w6) ?hw (.tmp 81) (.tmp 82) rfl (.slice (some ⟨w6.heap.size + 1, 0, none⟩) 0 0) [] N _ _ _ rfl rfl ?aO ?aR ?aB ?aL ?_; (case hw => rfl); (case aO => (refine spec_l03Open_from.lit [] ?_ ?_ (Nat.zero_le _)); ((repeat (first | exact spec_l03Open_from.top rfl | exact spec_l03Open_from.top (by simp) | (with_reducible refine blk_drew ?_) | (with_reducible refine blk_alloc ?_ _)))); (omega)); (case aR => (refine Kd.C_below HN6.out ?_); (repeat (first | exact Below.refl _ _ | (with_reducible refine below_drew1 ?_) | (with_reducible refine below_alloc ?_ _) | (with_reducible refine pw_below_drewN ?_ _)))); (case aB => (repeat (first | exact Below.refl _ _ | (with_reducible refine below_drew1 ?_) | (with_reducible refine below_alloc ?_ _) | (with_reducible refine pw_below_drewN ?_ _)))); (case aL => simp; omega); intro v83 w83 ho hb hg; rw [List.nil_append] at ho; have HO83 := Aside0.mk ho; have HB83 := Aside0.mk hb; have HG83 := Aside0.mk hg; clear ho hb hg) | (refine spec_l03Open_from.app (w0 := w6) ?hw (.tmp 83) (.tmp 85) rfl v83 N [x] _ _ _ rfl rfl ?bO ?bR ?bB ?bL ?_; (case hw => rfl); (case bO => (refine Kd.R_below HO83.out ?_); (repeat (first | exact Below.refl _ _ | (with_reducible refine below_drew1 ?_) | (with_reducible refine below_alloc ?_ _) | (with_reducible refine pw_below_drewN ?_ _)))); (case bR => (refine (Kd.R_reads' (spec_l03Open_from.lit (base := 0) [x] ?_ (Nat.zero_le _) (by simp))).2.2); ((repeat (first | exact spec_l03Open_from.top rfl | exact spec_l03Open_from.top (by simp) | (with_reducible refine blk_drew ?_) | (with_reducible refine blk_alloc ?_ _))); done)); (case bB => (repeat (first | exact HB83.out | exact Below.refl _ _ | (with_reducible refine below_drew1 ?_) | (with_reducible refine below_alloc ?_ _) | (with_reducible refine pw_below_drewN ?_ _)))); (case bL => simp; omega); intro v86 w86 ho hb hg; have HO86 := Aside0.mk ho; have HB86 := Aside0.mk hb; clear ho hb hg) | (refine spec_l03Open_from.app (w0 := w6) ?hw (.tmp 83) (.tmp 85) rfl v83 N [x] _ _ _ rfl rfl ?bO ?bR ?bB ?bL ?_; (case hw => rfl); (case bO => (refine Kd.R_below HO83.out ?_); (repeat (first | exact Below.refl _ _ | (with_reducible refine below_drew1 ?_) | (with_reducible refine below_alloc ?_ _) | (with_reducible refine pw_below_drewN ?_ _)))); (case bR => (refine (Kd.R_reads' (spec_l03Open_from.lit (base := 0) [x] ?_ (Nat.zero_le _) (by simp))).2.2); ((repeat (with_reducible refine blk_drew ?_)); (refine (HG83.out.block _ ?_ ?_).trans ?_); rotate_left 2; ((repeat (first | exact spec_l03Open_from.top rfl | exact spec_l03Open_from.top (by simp) | (with_reducible refine blk_drew ?_) | (with_reducible refine blk_alloc ?_ _)))); (focus (first | (simp; done) | (simp; omega) | trace_state)); (focus (first | (simp [Value.ownBlock]; done) | (simp [Value.ownBlock]; omega) | trace_state)))); (case bB => (repeat (first | exact HB83.out | exact Below.refl _ _ | (with_reducible refine below_drew1 ?_) | (with_reducible refine below_alloc ?_ _) | (with_reducible refine pw_below_drewN ?_ _)))); (case bL => simp; omega); intro v86 w86 ho hb hg; have HO86 := Aside0.mk ho; have HB86 := Aside0.mk hb; clear ho hb hg) | (go_at_call 96; obtain ⟨A7, c7, e7, hc7, hC7⟩ := Kd.R_reads HO86.out; subst e7; refine (IHa.out g (by have := HK.out; omega) A7 c7 (N ++ [x]) [t0, t1, t2, t3, t4, t5, t6, t7, t8, t9] mo B1 m1 fd1 vB1 _ B2 m2 fd2 (HI6.out.next (by (repeat (first | exact HB86.out | exact Below.refl _ _ | (with_reducible refine below_drew1 ?_) | (with_reducible refine below_alloc ?_ _) | (with_reducible refine pw_below_drewN ?_ _))))) (Kd.C_below hC7 (by (repeat (first | exact Below.refl _ _ | (with_reducible refine below_drew1 ?_) | (with_reducible refine below_alloc ?_ _) | (with_reducible refine pw_below_drewN ?_ _))))) hc7 (fun ad e => by subst e; have q := Kd.R_base HO86.out ad.block rfl; have := blk_lt HX7.out; have := GN.out; omega) rfl HP3.out).mono ?_; rintro e w' ⟨rfl, hk, vB2, hI⟩; have HI9 := Aside0.mk hI; have KP9 := Aside0.mk ((KP6.out.trans (KeepBut.of_below (by (repeat (first | exact HB86.out | exact Below.refl _ _ | (with_reducible refine below_drew1 ?_) | (with_reducible refine below_alloc ?_ _) | (with_reducible refine pw_below_drewN ?_ _)))) gw none) (.inl rfl)).trans hk (.inl rfl)); have HS9 := Aside0.mk ((hk.2 gs (blk_lt (blk_below HS6.out (by (repeat (first | exact HB86.out | exact Below.refl _ _ | (with_reducible refine below_drew1 ?_) | (with_reducible refine below_alloc ?_ _) | (with_reducible refine pw_below_drewN ?_ _)))))) (by have := GS.out; omega) (by simp)).trans (blk_below HS6.out (by (repeat (first | exact HB86.out | exact Below.refl _ _ | (with_reducible refine below_drew1 ?_) | (with_reducible refine below_alloc ?_ _) | (with_reducible refine pw_below_drewN ?_ _)))))); have HN9 := Aside0.mk (spec_l03Open_from.keepC hk (Kd.C_below HN6.out (by (repeat (first | exact HB86.out | exact Below.refl _ _ | (with_reducible refine below_drew1 ?_) | (with_reducible refine below_alloc ?_ _) | (with_reducible refine pw_below_drewN ?_ _))))) HNE.out); have HT9 : Aside0 (∀ j : Nat, w'.cell? ⟨gn, j, none⟩ = w6.cell? ⟨gn, j, none⟩) := ⟨fun j => (World.cell?_of_block (hk.2 gn (blk_lt (blk_below HX7.out (by (repeat (first | exact HB86.out | exact Below.refl _ _ | (with_reducible refine below_drew1 ?_) | (with_reducible refine below_alloc ?_ _) | (with_reducible refine pw_below_drewN ?_ _)))))) (by have := GN.out; omega) (by simp))).trans (Below.cell (show Below w6.heap.size w6 _ from by (repeat (first | exact HB86.out | exact Below.refl _ _ | (with_reducible refine below_drew1 ?_) | (with_reducible refine below_alloc ?_ _) | (with_reducible refine pw_below_drewN ?_ _)))) hlt6)⟩; clear hk hI))
                      all_goals
                        clear HX7 HI6 HS6 KP6 HN6
                        have HL := HR.out
                        have hwx : wrap64 (x + 1) = x + 1 := by unfold wrap64; omega
                        rw [hwx] at HL
                        have HLA := Aside0.mk HL
                        clear HL HR hwx
                        go_wp2
                        go_roundg g
                        case measure => omega
                        case rel => exact ⟨_, B2, m2, fd2, _, rfl, HLA, ⟨by have := HK.out; omega⟩, HI9, KP9, HS9, HN9⟩
                    | false =>
                      rw [if_neg Bool.false_ne_true] at hput
                      have HP := Aside0.mk hput
                      clear hput
                      go_upto_region 15 with (first | (go_at_call 143; refine (spec_l00Has.calls g An cn N x false _ HN2.out HCN.out HHS.out).mono ?_; rintro e w' ⟨rfl, ⟨nd, rfl⟩⟩; have HI3 := Aside0.mk (HI2.out.drew nd); have KP3 := Aside0.mk (KP2.out.trans (KeepBut.of_below (pw_below_drewN (Below.refl _ _) nd) gw none) (.inl rfl)); have HS3 := Aside0.mk (blk_drewN HS2.out nd); have HN3 := Aside0.mk (Kd.C_below HN2.out (pw_below_drewN (Below.refl _ _) nd)); have hs0 : (wr.drewN nd).cell? ⟨gs, 0, none⟩ = some (.int .i64 s0) := (blk_cell HS3.out 0).trans rfl; have hs1 : (wr.drewN nd).cell? ⟨gs, 1, none⟩ = some (.int .i64 s1) := (blk_cell HS3.out 1).trans rfl; have hs2 : (wr.drewN nd).cell? ⟨gs, 2, none⟩ = some (.int .i64 s2) := (blk_cell HS3.out 2).trans rfl; have hs3 : (wr.drewN nd).cell? ⟨gs, 3, none⟩ = some (.int .i64 s3) := (blk_cell HS3.out 3).trans rfl; have hs4 : (wr.drewN nd).cell? ⟨gs, 4, none⟩ = some (.int .i64 s4) := (blk_cell HS3.out 4).trans rfl; have hs5 : (wr.drewN nd).cell? ⟨gs, 5, none⟩ = some (.int .i64 s5) := (blk_cell HS3.out 5).trans rfl; have hs6 : (wr.drewN nd).cell? ⟨gs, 6, none⟩ = some (.int .i64 s6) := (blk_cell HS3.out 6).trans rfl; have hs7 : (wr.drewN nd).cell? ⟨gs, 7, none⟩ = some (.int .i64 s7) := (blk_cell HS3.out 7).trans rfl; have hs8 : (wr.drewN nd).cell? ⟨gs, 8, none⟩ = some (.int .i64 s8) := (blk_cell HS3.out 8).trans rfl; have hs9 : (wr.drewN nd).cell? ⟨gs, 9, none⟩ = some (.int .i64 s9) := (blk_cell HS3.out 9).trans rfl; clear HI2 KP2 HS2 HN2 hp1 hcx; generalize wr.drewN nd = w2 at *) | ((with_reducible refine gate_dst (N := 11) rfl ?_); refine box_event ?hg (N := 11) ?hd (cs := #[.int .i64 0, .int .i64 0, .int .i64 0, .int .i64 0, .int .i64 0, .int .i64 0, .int .i64 0, .int .i64 0, .int .i64 0, .int .i64 0]) (t := 122) ?hr ?_; (case hd => rfl); (case hg => rfl); (case hr => first | (go_simp; done) | (go_simp; rfl)); intro gn hgn w3 hn3 hbb; have HB3 := Aside0.mk hbb; have HX3 := Aside0.mk hn3; have GN := Aside0.mk (show gw < gn ∧ gs < gn ∧ w2.heap.size ≤ gn from by rw [hgn]; exact ⟨blk_lt HI3.out.h, blk_lt HS3.out, Nat.le_refl _⟩); clear hn3 hbb hgn; have hn0 : w3.cell? ⟨gn, 0, none⟩ = some (.int .i64 0) := (blk_cell HX3.out 0).trans rfl; have hf0 := blk_frozen HX3.out 0; have hn1 : w3.cell? ⟨gn, 1, none⟩ = some (.int .i64 0) := (blk_cell HX3.out 1).trans rfl; have hf1 := blk_frozen HX3.out 1; have hn2 : w3.cell? ⟨gn, 2, none⟩ = some (.int .i64 0) := (blk_cell HX3.out 2).trans rfl; have hf2 := blk_frozen HX3.out 2; have hn3 : w3.cell? ⟨gn, 3, none⟩ = some (.int .i64 0) := (blk_cell HX3.out 3).trans rfl; have hf3 := blk_frozen HX3.out 3; have hn4 : w3.cell? ⟨gn, 4, none⟩ = some (.int .i64 0) := (blk_cell HX3.out 4).trans rfl; have hf4 := blk_frozen HX3.out 4; have hn5 : w3.cell? ⟨gn, 5, none⟩ = some (.int .i64 0) := (blk_cell HX3.out 5).trans rfl; have hf5 := blk_frozen HX3.out 5; have hn6 : w3.cell? ⟨gn, 6, none⟩ = some (.int .i64 0) := (blk_cell HX3.out 6).trans rfl; have hf6 := blk_frozen HX3.out 6; have hn7 : w3.cell? ⟨gn, 7, none⟩ = some (.int .i64 0) := (blk_cell HX3.out 7).trans rfl; have hf7 := blk_frozen HX3.out 7; have hn8 : w3.cell? ⟨gn, 8, none⟩ = some (.int .i64 0) := (blk_cell HX3.out 8).trans rfl; have hf8 := blk_frozen HX3.out 8; have hn9 : w3.cell? ⟨gn, 9, none⟩ = some (.int .i64 0) := (blk_cell HX3.out 9).trans rfl; have hf9 := blk_frozen HX3.out 9))
                      have SX := spec_l03Open_from.ten HX3.out s0 s1 s2 s3 s4 s5 s6 s7 s8 s9
                      have HI4 := Aside0.mk (HI3.out.next HB3.out)
                      have HS4 := Aside0.mk (blk_below HS3.out HB3.out)
                      have KP4 := Aside0.mk (KP3.out.trans (KeepBut.of_below HB3.out gw none) (.inl rfl))
                      clear hn0 hf0 hs0 hn1 hf1 hs1 hn2 hf2 hs2 hn3 hf3 hs3 hn4 hf4 hs4 hn5 hf5 hs5 hn6 hf6 hs6 hn7 hf7 hs7 hn8 hf8 hs8 hn9 hf9 hs9
                      generalize ((((((((((w3.setCell ⟨gn, 0, none⟩ (.int .i64 s0)).setCell ⟨gn, 1, none⟩ (.int .i64 s1)).setCell ⟨gn, 2, none⟩ (.int .i64 s2)).setCell ⟨gn, 3, none⟩ (.int .i64 s3)).setCell ⟨gn, 4, none⟩ (.int .i64 s4)).setCell ⟨gn, 5, none⟩ (.int .i64 s5)).setCell ⟨gn, 6, none⟩ (.int .i64 s6)).setCell ⟨gn, 7, none⟩ (.int .i64 s7)).setCell ⟨gn, 8, none⟩ (.int .i64 s8)).setCell ⟨gn, 9, none⟩ (.int .i64 s9)) = w4 at SX ⊢
                      obtain ⟨hx4, hk4, hb4⟩ := SX
                      have HX4 := Aside0.mk hx4
                      have NV := Aside0.mk (show some gn ≠ vB1.ownBlock from fun e => by have := Kd.R_lt HI3.out.rb gn e.symm; have := GN.out; omega)
                      have HI5 := Aside0.mk (HI4.out.keep hk4 (hb4 w HI4.out.b (by have := GN.out; have := HI3.out.b.size; omega)) (by have := GN.out; omega) NV.out)
                      have HS5 := Aside0.mk ((hk4.2 gs (blk_lt HS4.out) (by have := GN.out; omega) (by simp)).trans HS4.out)
                      have K5 := Aside0.mk hk4
                      have SZ3 := Aside0.mk HI3.out.b.size
                      clear hx4 hk4 hb4 HI4 HS4 HI3
                      have hcx5 := spec_l03Open_from.cell HX4.out x g1 (by simp; omega)
                      have hfx5 := blk_frozen HX4.out x.toNat
                      go_upto_region 16 with (fail)
                      have HX6 : Aside0 ((w4.setCell ⟨gn, x.toNat, none⟩ (.int .i64 (wrap64 (rd [s0, s1, s2, s3, s4, s5, s6, s7, s8, s9] x - rd D (N.length : Int))))).heap[gn]? = some (.cells ((([s0, s1, s2, s3, s4, s5, s6, s7, s8, s9] : List Int).set x.toNat (wrap64 (rd [s0, s1, s2, s3, s4, s5, s6, s7, s8, s9] x - rd D (N.length : Int)))).map (Value.int .i64)).toArray 122 (0, 0))) := ⟨blk_put (cs := (([s0, s1, s2, s3, s4, s5, s6, s7, s8, s9] : List Int).map (Value.int .i64)).toArray) HX4.out x.toNat _ (by rw [List.map_set]; simp)⟩
                      have K6 := Aside0.mk (K5.out.set_ x.toNat (.int .i64 (wrap64 (rd [s0, s1, s2, s3, s4, s5, s6, s7, s8, s9] x - rd D (N.length : Int)))))
                      have HI6 := Aside0.mk (HI5.out.keep ((KeepBut.refl w4 gn none).set_ x.toNat (.int .i64 (wrap64 (rd [s0, s1, s2, s3, s4, s5, s6, s7, s8, s9] x - rd D (N.length : Int))))) (below_set HI5.out.b (by have := GN.out; have := SZ3.out; omega)) (by have := GN.out; omega) NV.out)
                      have HS6 := Aside0.mk (blk_far HS5.out (p := ⟨gn, x.toNat, none⟩) (by have := GN.out; show gs ≠ gn; omega) (.int .i64 (wrap64 (rd [s0, s1, s2, s3, s4, s5, s6, s7, s8, s9] x - rd D (N.length : Int)))))
                      clear hcx5 hfx5 HX4 HI5 HS5 K5
                      obtain ⟨t0, t1, t2, t3, t4, t5, t6, t7, t8, t9, hT⟩ : ∃ a b c d e f a2 b2 c2 d2, ([s0, s1, s2, s3, s4, s5, s6, s7, s8, s9] : List Int).set x.toNat (wrap64 (rd [s0, s1, s2, s3, s4, s5, s6, s7, s8, s9] x - rd D (N.length : Int))) = [a, b, c, d, e, f, a2, b2, c2, d2] := by
                        match ([s0, s1, s2, s3, s4, s5, s6, s7, s8, s9] : List Int).set x.toNat (wrap64 (rd [s0, s1, s2, s3, s4, s5, s6, s7, s8, s9] x - rd D (N.length : Int))), (List.length_set : (([s0, s1, s2, s3, s4, s5, s6, s7, s8, s9] : List Int).set x.toNat (wrap64 (rd [s0, s1, s2, s3, s4, s5, s6, s7, s8, s9] x - rd D (N.length : Int)))).length = _) with
                        | [a, b, c, d, e, f, a2, b2, c2, d2], _ => exact ⟨a, b, c, d, e, f, a2, b2, c2, d2, rfl⟩
                      have HP2 := HP.out
                      rw [hT] at HP2
                      have HX62 := HX6.out
                      rw [hT] at HX62
                      generalize w4.setCell ⟨gn, x.toNat, none⟩ (.int .i64 (wrap64 (rd [s0, s1, s2, s3, s4, s5, s6, s7, s8, s9] x - rd D (N.length : Int)))) = w6 at *
                      have HP3 := Aside0.mk HP2
                      have HX7 := Aside0.mk HX62
                      clear HP2 HX62 HX6 HP hT
                      have HN6 := Aside0.mk (spec_l03Open_from.keepN HN3.out HB3.out K6.out GN.out.2.2)
                      have KP6 : Aside0 (KeepBut W w6 gw none) := ⟨⟨Nat.le_trans KP4.out.1 K6.out.1, fun i hi hne hr => (K6.out.2 i (Nat.lt_of_lt_of_le hi KP4.out.1) (by have := GN.out; have := KP3.out.1; omega) hr).trans (KP4.out.2 i hi hne hr)⟩⟩
                      clear K6 HB3 HN3 KP3 HS3 KP4 HX3
                      have hr6 : w6.rangeAt gn 0 [.int .i64 t0, .int .i64 t1, .int .i64 t2, .int .i64 t3, .int .i64 t4, .int .i64 t5, .int .i64 t6, .int .i64 t7, .int .i64 t8, .int .i64 t9] := by
                        intro j v hv
                        rw [Nat.zero_add, blk_cell HX7.out j]
                        simpa using hv
                      have hsz : (Try.prog.info? 122).map (·.size) = some 10 := spec_l03Open_from.size10
                      have hlt6 : gn < w6.heap.size := blk_lt HX7.out
                      go_region_held3 (fun w' => w'.rangeAt gn 0 [.int .i64 t0, .int .i64 t1, .int .i64 t2, .int .i64 t3, .int .i64 t4, .int .i64 t5, .int .i64 t6, .int .i64 t7, .int .i64 t8, .int .i64 t9]) (((repeat (first | (with_reducible exact hr6) | (with_reducible refine spec_l03Open_from.keepRD ?_) | (with_reducible refine World.rangeAt_alloc ?_ _) | (with_reducible refine spec_l03Open_from.keepRN ?_) | (with_reducible refine spec_l03Open_from.keepRT HT9.out ?_) | (with_reducible refine spec_l03Open_from.keepRB HB86.out hlt6 ?_) | (with_reducible refine spec_l03Open_from.keepRB HB83.out hlt6 ?_))))) (first | (refine spec_l03Open_from.app (w0 := w6) ?hw (.tmp 81) (.tmp 82) rfl (.slice (some ⟨w6.heap.size, 0, none⟩) 0 0) [] N _ _ _ rfl rfl ?aO ?aR ?aB ?aL ?_; (case hw => rfl); (case aO => (refine spec_l03Open_from.lit [] ?_ ?_ (Nat.zero_le _)); ((repeat (first | exact spec_l03Open_from.top rfl | exact spec_l03Open_from.top (by simp) | (with_reducible refine blk_drew ?_) | (with_reducible refine blk_alloc ?_ _)))); (omega)); (case aR => (refine Kd.C_below HN6.out ?_); (repeat (first | exact Below.refl _ _ | (with_reducible refine below_drew1 ?_) | (with_reducible refine below_alloc ?_ _) | (with_reducible refine pw_below_drewN ?_ _)))); (case aB => (repeat (first | exact Below.refl _ _ | (with_reducible refine below_drew1 ?_) | (with_reducible refine below_alloc ?_ _) | (with_reducible refine pw_below_drewN ?_ _)))); (case aL => simp; omega); intro v83 w83 ho hb hg; rw [List.nil_append] at ho; have HO83 := Aside0.mk ho; have HB83 := Aside0.mk hb; have HG83 := Aside0.mk hg; clear ho hb hg) | (refine spec_l03Open_from.app (w0 := w6) ?hw (.tmp 81) (.tmp 82) rfl (.slice (some ⟨w6.heap.size + 1, 0, none⟩) 0 0) [] N _ _ _ rfl rfl ?aO ?aR ?aB ?aL ?_; (case hw => rfl); (case aO => (refine spec_l03Open_from.lit [] ?_ ?_ (Nat.zero_le _)); ((repeat (first | exact spec_l03Open_from.top rfl | exact spec_l03Open_from.top (by simp) | (with_reducible refine blk_drew ?_) | (with_reducible refine blk_alloc ?_ _)))); (omega)); (case aR => (refine Kd.C_below HN6.out ?_); (repeat (first | exact Below.refl _ _ | (with_reducible refine below_drew1 ?_) | (with_reducible refine below_alloc ?_ _) | (with_reducible refine pw_below_drewN ?_ _)))); (case aB => (repeat (first | exact Below.refl _ _ | (with_reducible refine below_drew1 ?_) | (with_reducible refine below_alloc ?_ _) | (with_reducible refine pw_below_drewN ?_ _)))); (case aL => simp; omega); intro v83 w83 ho hb hg; rw [List.nil_append] at ho; have HO83 := Aside0.mk ho; have HB83 := Aside0.mk hb; have HG83 := Aside0.mk hg; clear ho hb hg) | (refine spec_l03Open_from.app (w0 := w6) ?hw (.tmp 83) (.tmp 85) rfl v83 N [x] _ _ _ rfl rfl ?bO ?bR ?bB ?bL ?_; (case hw => rfl); (case bO => (refine Kd.R_below HO83.out ?_); (repeat (first | exact Below.refl _ _ | (with_reducible refine below_drew1 ?_) | (with_reducible refine below_alloc ?_ _) | (with_reducible refine pw_below_drewN ?_ _)))); (case bR => (refine (Kd.R_reads' (spec_l03Open_from.lit (base := 0) [x] ?_ (Nat.zero_le _) (by simp))).2.2); ((repeat (first | exact spec_l03Open_from.top rfl | exact spec_l03Open_from.top (by simp) | (with_reducible refine blk_drew ?_) | (with_reducible refine blk_alloc ?_ _))); done)); (case bB => (repeat (first | exact HB83.out | exact Below.refl _ _ | (with_reducible refine below_drew1 ?_) | (with_reducible refine below_alloc ?_ _) | (with_reducible refine pw_below_drewN ?_ _)))); (case bL => simp; omega); intro v86 w86 ho hb hg; have HO86 := Aside0.mk ho; have HB86 := Aside0.mk hb; clear ho hb hg) | (refine spec_l03Open_from.app (w0 := w6) ?hw (.tmp 83) (.tmp 85) rfl v83 N [x] _ _ _ rfl rfl ?bO ?bR ?bB ?bL ?_; (case hw => rfl); (case bO => (refine Kd.R_below HO83.out ?_); (repeat (first | exact Below.refl _ _ | (with_reducible refine below_drew1 ?_) | (with_reducible refine below_alloc ?_ _) | (with_reducible refine pw_below_drewN ?_ _)))); (case bR => (refine (Kd.R_reads' (spec_l03Open_from.lit (base := 0) [x] ?_ (Nat.zero_le _) (by simp))).2.2); ((repeat (with_reducible refine blk_drew ?_)); (refine (HG83.out.block _ ?_ ?_).trans ?_); rotate_left 2; ((repeat (first | exact spec_l03Open_from.top rfl | exact spec_l03Open_from.top (by simp) | (with_reducible refine blk_drew ?_) | (with_reducible refine blk_alloc ?_ _)))); (focus (first | (simp; done) | (simp; omega) | trace_state)); (focus (first | (simp [Value.ownBlock]; done) | (simp [Value.ownBlock]; omega) | trace_state)))); (case bB => (repeat (first | exact HB83.out | exact Below.refl _ _ | (with_reducible refine below_drew1 ?_) | (with_reducible refine below_alloc ?_ _) | (with_reducible refine pw_below_drewN ?_ _)))); (case bL => simp; omega); intro v86 w86 ho hb hg; have HO86 := Aside0.mk ho; have HB86 := Aside0.mk hb; clear ho hb hg) | (go_at_call 96; obtain ⟨A7, c7, e7, hc7, hC7⟩ := Kd.R_reads HO86.out; subst e7; refine (IHa.out g (by have := HK.out; omega) A7 c7 (N ++ [x]) [t0, t1, t2, t3, t4, t5, t6, t7, t8, t9] (wrap64 (mo + 1)) B1 m1 fd1 vB1 _ B2 m2 fd2 (HI6.out.next (by (repeat (first | exact HB86.out | exact Below.refl _ _ | (with_reducible refine below_drew1 ?_) | (with_reducible refine below_alloc ?_ _) | (with_reducible refine pw_below_drewN ?_ _))))) (Kd.C_below hC7 (by (repeat (first | exact Below.refl _ _ | (with_reducible refine below_drew1 ?_) | (with_reducible refine below_alloc ?_ _) | (with_reducible refine pw_below_drewN ?_ _))))) hc7 (fun ad e => by subst e; have q := Kd.R_base HO86.out ad.block rfl; have := blk_lt HX7.out; have := GN.out; omega) rfl HP3.out).mono ?_; rintro e w' ⟨rfl, hk, vB2, hI⟩; have HI9 := Aside0.mk hI; have KP9 := Aside0.mk ((KP6.out.trans (KeepBut.of_below (by (repeat (first | exact HB86.out | exact Below.refl _ _ | (with_reducible refine below_drew1 ?_) | (with_reducible refine below_alloc ?_ _) | (with_reducible refine pw_below_drewN ?_ _)))) gw none) (.inl rfl)).trans hk (.inl rfl)); have HS9 := Aside0.mk ((hk.2 gs (blk_lt (blk_below HS6.out (by (repeat (first | exact HB86.out | exact Below.refl _ _ | (with_reducible refine below_drew1 ?_) | (with_reducible refine below_alloc ?_ _) | (with_reducible refine pw_below_drewN ?_ _)))))) (by have := GS.out; omega) (by simp)).trans (blk_below HS6.out (by (repeat (first | exact HB86.out | exact Below.refl _ _ | (with_reducible refine below_drew1 ?_) | (with_reducible refine below_alloc ?_ _) | (with_reducible refine pw_below_drewN ?_ _)))))); have HN9 := Aside0.mk (spec_l03Open_from.keepC hk (Kd.C_below HN6.out (by (repeat (first | exact HB86.out | exact Below.refl _ _ | (with_reducible refine below_drew1 ?_) | (with_reducible refine below_alloc ?_ _) | (with_reducible refine pw_below_drewN ?_ _))))) HNE.out); have HT9 : Aside0 (∀ j : Nat, w'.cell? ⟨gn, j, none⟩ = w6.cell? ⟨gn, j, none⟩) := ⟨fun j => (World.cell?_of_block (hk.2 gn (blk_lt (blk_below HX7.out (by (repeat (first | exact HB86.out | exact Below.refl _ _ | (with_reducible refine below_drew1 ?_) | (with_reducible refine below_alloc ?_ _) | (with_reducible refine pw_below_drewN ?_ _)))))) (by have := GN.out; omega) (by simp))).trans (Below.cell (show Below w6.heap.size w6 _ from by (repeat (first | exact HB86.out | exact Below.refl _ _ | (with_reducible refine below_drew1 ?_) | (with_reducible refine below_alloc ?_ _) | (with_reducible refine pw_below_drewN ?_ _)))) hlt6)⟩; clear hk hI))
                      all_goals
                        clear HX7 HI6 HS6 KP6 HN6
                        have HL := HR.out
                        have hwx : wrap64 (x + 1) = x + 1 := by unfold wrap64; omega
                        rw [hwx] at HL
                        have HLA := Aside0.mk HL
                        clear HL HR hwx
                        go_wp2
                        go_roundg g
                        case measure => omega
                        case rel => exact ⟨_, B2, m2, fd2, _, rfl, HLA, ⟨by have := HK.out; omega⟩, HI9, KP9, HS9, HN9⟩
                · rw [if_neg hg] at H; cases H
              · rw [if_neg hx] at H
                have e := Option.some.inj H
                simp only [Prod.mk.injEq] at e
                obtain ⟨rfl, rfl, rfl⟩ := e
                clear H
                go_wp2
                refine bodyPost_end (results_none rfl _ _ _) rfl ⟨rfl, KP2.out, vB1, HI2.out⟩

/-! ### spec_FewestOpened: function 30 -/
/-- What the row of lengths holds behind i rounds. -/
def spec_FewestOpened.F (l : List S88) (i j : Nat) : Int := if j < i then wrap64 (rd_T88 l (j : Int)).f0 else 0
def spec_FewestOpened.f (k : Nat) (l0 : List S88) (l1 : List Int) : Option (List Int × Int × Int) :=
  (spec_l03Needs.f k l0 l1).bind fun c =>
    if c = 0 then (if l0.length ≤ 10 then (spec_l03Open_from.f l1 (l0.length : Int) k [] [spec_FewestOpened.F l0 l0.length 0, spec_FewestOpened.F l0 l0.length 1, spec_FewestOpened.F l0 l0.length 2, spec_FewestOpened.F l0 l0.length 3, spec_FewestOpened.F l0 l0.length 4, spec_FewestOpened.F l0 l0.length 5, spec_FewestOpened.F l0 l0.length 6, spec_FewestOpened.F l0 l0.length 7, spec_FewestOpened.F l0 l0.length 8, spec_FewestOpened.F l0 l0.length 9] 0 [] 0 false).bind fun r => if r.2.2 = true then some (r.1, r.2.1, 0) else some ([], 0, 6) else none)
    else some ([], 0, c)
theorem spec_FewestOpened.mono : ∀ a0 a1 k, LeO (spec_FewestOpened.f k a0 a1) (spec_FewestOpened.f (k + 1) a0 a1) := by
  intro a0 a1 k
  unfold spec_FewestOpened.f
  repeat' first
    | exact spec_l03Needs.mono _ _ _
    | exact (spec_l03Open_from.mono_l _ _ _).1 _ _ _ _ _ _
    | (with_reducible exact LeO.refl _)
    | (with_reducible refine LeO.ite ?_ ?_)
    | (with_reducible refine LeO.bind ?_ (fun _ => ?_))
theorem spec_FewestOpened.step (l0 : List S88) (A1 : Option Addr) (l1 : List Int) (c1 : Nat) (i : Nat) (hi : i < 10) (v : Int) (hv : v = wrap64 (rd_T88 l0 (i : Int)).f0) : (#[.slice A1 l1.length c1, .int .i64 (spec_FewestOpened.F l0 i 0), .int .i64 (spec_FewestOpened.F l0 i 1), .int .i64 (spec_FewestOpened.F l0 i 2), .int .i64 (spec_FewestOpened.F l0 i 3), .int .i64 (spec_FewestOpened.F l0 i 4), .int .i64 (spec_FewestOpened.F l0 i 5), .int .i64 (spec_FewestOpened.F l0 i 6), .int .i64 (spec_FewestOpened.F l0 i 7), .int .i64 (spec_FewestOpened.F l0 i 8), .int .i64 (spec_FewestOpened.F l0 i 9), .int .i64 (l0.length : Int), .slice none 0 0, .int .i64 0, .bool false] : Array Value).setIfInBounds (1 + i) (.int .i64 v) = #[.slice A1 l1.length c1, .int .i64 (spec_FewestOpened.F l0 (i + 1) 0), .int .i64 (spec_FewestOpened.F l0 (i + 1) 1), .int .i64 (spec_FewestOpened.F l0 (i + 1) 2), .int .i64 (spec_FewestOpened.F l0 (i + 1) 3), .int .i64 (spec_FewestOpened.F l0 (i + 1) 4), .int .i64 (spec_FewestOpened.F l0 (i + 1) 5), .int .i64 (spec_FewestOpened.F l0 (i + 1) 6), .int .i64 (spec_FewestOpened.F l0 (i + 1) 7), .int .i64 (spec_FewestOpened.F l0 (i + 1) 8), .int .i64 (spec_FewestOpened.F l0 (i + 1) 9), .int .i64 (l0.length : Int), .slice none 0 0, .int .i64 0, .bool false] := by
  subst hv
  match i, hi with
  | 0, _ | 1, _ | 2, _ | 3, _ | 4, _ | 5, _ | 6, _ | 7, _ | 8, _ | 9, _ => simp [spec_FewestOpened.F]
set_option maxHeartbeats 8000000 in
set_option maxRecDepth 100000 in
theorem spec_FewestOpened.calls (k : Nat) (A0 : Option Addr) (c0 : Nat) (l0 : List S88) (A1 : Option Addr) (c1 : Nat) (l1 : List Int) (r1 : List Int) (r2 r3 : Int) (w : World) (hr0 : Kd.C k88 w A0 l0.length l0) (hc0 : l0.length ≤ c0) (hr1 : Kd.C (Kd.int .i64) w A1 l1.length l1) (hc1 : l1.length ≤ c1) (h : spec_FewestOpened.f k l0 l1 = some (r1, r2, r3)) :
    Calls Try.prog 30 #[.slice A0 l0.length c0, .slice A1 l1.length c1] w fun e w' => ∃ v0_ : Value, e = .returned (.tuple #[v0_, .int .i64 r2, .int .i64 r3]) ∧ Kd.R (Kd.int .i64) 2 w' w.heap.size (fun _ => True) v0_ r1 ∧ Below w.heap.size w w' := by
  unfold spec_FewestOpened.f at h
  obtain ⟨c, hc, h⟩ := Option.bind_eq_some_iff.mp h
  have HC := Aside0.mk hc
  have HR := Aside0.mk hr0
  have HC0 := Aside0.mk hc0
  have HD := Aside0.mk hr1
  have HC1 := Aside0.mk hc1
  have hu1 := Try.underlying124
  have hu2 := Try.underlying122
  clear hc hr0 hc0 hr1 hc1
  by_cases hz : c = 0
  · rw [if_pos hz] at h
    subst hz
    by_cases h10 : l0.length ≤ 10
    rotate_left
    · rw [if_neg h10] at h; cases h
    rw [if_pos h10] at h
    obtain ⟨⟨B, m, fd⟩, hf, h⟩ := Option.bind_eq_some_iff.mp h
    simp only at h
    have HF := Aside0.mk hf
    have HH := Aside0.mk h
    clear h hf
    have q1 : ((0 : Int) != 0) = false := rfl
    go_enter Try.func30, Try.ntmps30
    go_wp2_with (first | (go_at_call 95; refine (spec_l03Needs.calls k A0 c0 l0 A1 c1 l1 0 _ HR.out HC0.out HD.out HC1.out HC.out).mono ?_; rintro e w4 ⟨rfl, hb4⟩; have B4 := Aside0.mk hb4; clear hb4) | ((with_reducible refine gate_dst (N := 21) rfl ?_); refine box_event ?hg (N := 21) ?hd (cs := #[.slice A1 l1.length c1, .int .i64 (spec_FewestOpened.F l0 0 0), .int .i64 (spec_FewestOpened.F l0 0 1), .int .i64 (spec_FewestOpened.F l0 0 2), .int .i64 (spec_FewestOpened.F l0 0 3), .int .i64 (spec_FewestOpened.F l0 0 4), .int .i64 (spec_FewestOpened.F l0 0 5), .int .i64 (spec_FewestOpened.F l0 0 6), .int .i64 (spec_FewestOpened.F l0 0 7), .int .i64 (spec_FewestOpened.F l0 0 8), .int .i64 (spec_FewestOpened.F l0 0 9), .int .i64 (l0.length : Int), .slice none 0 0, .int .i64 0, .bool false]) (t := 124) ?hr ?_; (case hd => rfl); (case hg => rfl); (case hr => first | (go_simp; done) | (go_simp; rfl)); intro gw hgw w5 hw5 hbb; have HW5 := Aside0.mk hw5; have B5 := Aside0.mk (below_then B4.out B4.out.size hbb); have GW := Aside0.mk (show w.heap.size ≤ gw from by rw [hgw]; exact B4.out.size); clear hw5 hbb hgw B4))
    go_loopg [9] (l0.length + 1) (fun gq v9 W2 => ∃ (i : Nat), v9 = .int .i64 (i : Int) ∧ Aside0 (gq + i = l0.length + 1 ∧ i ≤ l0.length) ∧ Aside0 (Below w.heap.size w W2) ∧ Aside0 (W2.heap[gw]? = some (.cells #[.slice A1 l1.length c1, .int .i64 (spec_FewestOpened.F l0 i 0), .int .i64 (spec_FewestOpened.F l0 i 1), .int .i64 (spec_FewestOpened.F l0 i 2), .int .i64 (spec_FewestOpened.F l0 i 3), .int .i64 (spec_FewestOpened.F l0 i 4), .int .i64 (spec_FewestOpened.F l0 i 5), .int .i64 (spec_FewestOpened.F l0 i 6), .int .i64 (spec_FewestOpened.F l0 i 7), .int .i64 (spec_FewestOpened.F l0 i 8), .int .i64 (spec_FewestOpened.F l0 i 9), .int .i64 (l0.length : Int), .slice none 0 0, .int .i64 0, .bool false] 124 (0, 0))))
    case atStart => exact ⟨0, rfl, ⟨rfl, Nat.zero_le _⟩, B5, HW5⟩
    case round =>
      clear B5 HW5
      obtain ⟨i, rfl, HK, BI, HWI⟩ := hrel
      by_cases hx : (i : Int) < (l0.length : Int)
      · have q2 : decide ((i : Int) < (l0.length : Int)) = true := decide_eq_true hx
        have gi0 : (0 : Int) ≤ (i : Int) := by omega
        have gi : (i : Int) < 10 := by omega
        obtain ⟨ady, ey, hy0, hy1, hy2⟩ := at_T88 (Kd.C_below HR.out BI.out) (i : Int) gi0 hx
        cases ey
        rw [Int.toNat_natCast] at hy0 hy1 hy2
        go_wp2
        go_still_tail 11, (by kernel_rfl)
        change wpList _ _ _ _ _ (wr.drewN 1)
        have HW6 := Aside0.mk (blk_drewN HWI.out 1)
        have BI6 := Aside0.mk (pw_below_drewN BI.out 1)
        clear hy0 hy1 hy2 HWI BI
        generalize wr.drewN 1 = W6 at *
        have hcs : (W6.cell? ⟨gw, 1 + i, none⟩).isSome = true := by rw [blk_cell HW6.out (1 + i)]; simp; omega
        obtain ⟨vc, hcc⟩ := Option.isSome_iff_exists.mp hcs
        have hfc := blk_frozen HW6.out (1 + i)
        go_wp2
        go_roundg (gk - 1)
        case measure => have := HK.out; omega
        case rel => exact ⟨i + 1, rfl, ⟨by have := HK.out; omega, by have := HK.out; omega⟩, ⟨below_set BI6.out GW.out⟩, ⟨blk_put HW6.out (1 + i) _ (spec_FewestOpened.step l0 A1 l1 c1 i (by omega) _ (by first | rfl | (unfold wrap64; rfl) | (unfold wrap64; exact IntKind.wrap_i64 _)))⟩⟩
      · have q2 : decide ((i : Int) < (l0.length : Int)) = false := decide_eq_false hx
        have ei : i = l0.length := by have := HK.out; omega
        subst ei
        have H := HH.out
        clear HH
        cases fd with
        | true =>
          rw [if_pos rfl] at H
          have e := Option.some.inj H
          simp only [Prod.mk.injEq] at e
          obtain ⟨rfl, rfl, rfl⟩ := e
          clear H
          go_wp2_with (first | ((with_reducible refine gate_dst (N := 40) rfl ?_); refine Kd.R_lit (Kd.int .i64) (w0 := wr) wr.heap.size 2 ?hg (N := 40) ?hd (xs := ([] : List Int)) (inner := []) (ok := fun _ => True) (okp := fun _ => True) ?hr ?hp (fun _ hk => hk) trivial (Below.refl _ _) (Nat.le_refl _) (by simp) ?_; (case hd => rfl); (case hg => rfl); (case hr => first | (go_simp; done) | (go_simp; rfl)); (case hp => exact (Reps.none _ _)); intro v40 w6 ho hb hg_ hnew_; have HO6 := Aside0.mk ho; have HB6 := Aside0.mk hb; clear ho hb hg_ hnew_; have HW7 := Aside0.mk (blk_below HWI.out HB6.out); have hl0 : w6.cell? ⟨gw, 1, none⟩ = some (.int .i64 (spec_FewestOpened.F l0 l0.length 0)) := (blk_cell HW7.out 1).trans rfl; have hl1 : w6.cell? ⟨gw, 2, none⟩ = some (.int .i64 (spec_FewestOpened.F l0 l0.length 1)) := (blk_cell HW7.out 2).trans rfl; have hl2 : w6.cell? ⟨gw, 3, none⟩ = some (.int .i64 (spec_FewestOpened.F l0 l0.length 2)) := (blk_cell HW7.out 3).trans rfl; have hl3 : w6.cell? ⟨gw, 4, none⟩ = some (.int .i64 (spec_FewestOpened.F l0 l0.length 3)) := (blk_cell HW7.out 4).trans rfl; have hl4 : w6.cell? ⟨gw, 5, none⟩ = some (.int .i64 (spec_FewestOpened.F l0 l0.length 4)) := (blk_cell HW7.out 5).trans rfl; have hl5 : w6.cell? ⟨gw, 6, none⟩ = some (.int .i64 (spec_FewestOpened.F l0 l0.length 5)) := (blk_cell HW7.out 6).trans rfl; have hl6 : w6.cell? ⟨gw, 7, none⟩ = some (.int .i64 (spec_FewestOpened.F l0 l0.length 6)) := (blk_cell HW7.out 7).trans rfl; have hl7 : w6.cell? ⟨gw, 8, none⟩ = some (.int .i64 (spec_FewestOpened.F l0 l0.length 7)) := (blk_cell HW7.out 8).trans rfl; have hl8 : w6.cell? ⟨gw, 9, none⟩ = some (.int .i64 (spec_FewestOpened.F l0 l0.length 8)) := (blk_cell HW7.out 9).trans rfl; have hl9 : w6.cell? ⟨gw, 10, none⟩ = some (.int .i64 (spec_FewestOpened.F l0 l0.length 9)) := (blk_cell HW7.out 10).trans rfl) | (go_at_call 96; (obtain ⟨A7, c7, e7, hc7, hC7⟩ := Kd.R_reads HO6.out; subst e7; refine (spec_l03Open_from.calls w gw A1 c1 l1 (l0.length : Int) (spec_FewestOpened.F l0 l0.length 0) (spec_FewestOpened.F l0 l0.length 1) (spec_FewestOpened.F l0 l0.length 2) (spec_FewestOpened.F l0 l0.length 3) (spec_FewestOpened.F l0 l0.length 4) (spec_FewestOpened.F l0 l0.length 5) (spec_FewestOpened.F l0 l0.length 6) (spec_FewestOpened.F l0 l0.length 7) (spec_FewestOpened.F l0 l0.length 8) (spec_FewestOpened.F l0 l0.length 9) HD.out k A7 c7 [] [spec_FewestOpened.F l0 l0.length 0, spec_FewestOpened.F l0 l0.length 1, spec_FewestOpened.F l0 l0.length 2, spec_FewestOpened.F l0 l0.length 3, spec_FewestOpened.F l0 l0.length 4, spec_FewestOpened.F l0 l0.length 5, spec_FewestOpened.F l0 l0.length 6, spec_FewestOpened.F l0 l0.length 7, spec_FewestOpened.F l0 l0.length 8, spec_FewestOpened.F l0 l0.length 9] 0 [] 0 false (.slice none 0 0) w6 B m true ⟨below_then BI.out BI.out.size HB6.out, GW.out, HW7.out, Kd.R_nil _ _ _ _ _⟩ hC7 hc7 (fun ad e => by subst e; have q := Kd.R_base HO6.out ad.block rfl; have := blk_lt HWI.out; omega) rfl HF.out).mono ?_; rintro e w8 ⟨rfl, hk, vB2, hI⟩; have HI8 := Aside0.mk hI; clear hk hI; have hw2 : w8.cell? ⟨gw, 12, none⟩ = some vB2 := (blk_cell HI8.out.h 12).trans rfl; have hw3 : w8.cell? ⟨gw, 13, none⟩ = some (.int .i64 m) := (blk_cell HI8.out.h 13).trans rfl; have hw4 : w8.cell? ⟨gw, 14, none⟩ = some (.bool true) := (blk_cell HI8.out.h 14).trans rfl; obtain ⟨A9, c9, e9⟩ := Kd.R_slice HI8.out.rb; subst e9)))
          refine wp_region_still_lit (by kernel_rfl) (by kernel_rfl) ?_
          repeat still_step
          refine wpStill_nil ?_
          change Exit.then _ _ _ _ (w8.drewN 1)
          go_wp2
          go_ret3
          exact ⟨_, rfl, Kd.R_drewN HI8.out.rb 1, pw_below_drewN HI8.out.b 1⟩
        | false =>
          rw [if_neg Bool.false_ne_true] at H
          have e := Option.some.inj H
          simp only [Prod.mk.injEq] at e
          obtain ⟨rfl, rfl, rfl⟩ := e
          clear H
          go_wp2_with (first | ((with_reducible refine gate_dst (N := 40) rfl ?_); refine Kd.R_lit (Kd.int .i64) (w0 := wr) wr.heap.size 2 ?hg (N := 40) ?hd (xs := ([] : List Int)) (inner := []) (ok := fun _ => True) (okp := fun _ => True) ?hr ?hp (fun _ hk => hk) trivial (Below.refl _ _) (Nat.le_refl _) (by simp) ?_; (case hd => rfl); (case hg => rfl); (case hr => first | (go_simp; done) | (go_simp; rfl)); (case hp => exact (Reps.none _ _)); intro v40 w6 ho hb hg_ hnew_; have HO6 := Aside0.mk ho; have HB6 := Aside0.mk hb; clear ho hb hg_ hnew_; have HW7 := Aside0.mk (blk_below HWI.out HB6.out); have hl0 : w6.cell? ⟨gw, 1, none⟩ = some (.int .i64 (spec_FewestOpened.F l0 l0.length 0)) := (blk_cell HW7.out 1).trans rfl; have hl1 : w6.cell? ⟨gw, 2, none⟩ = some (.int .i64 (spec_FewestOpened.F l0 l0.length 1)) := (blk_cell HW7.out 2).trans rfl; have hl2 : w6.cell? ⟨gw, 3, none⟩ = some (.int .i64 (spec_FewestOpened.F l0 l0.length 2)) := (blk_cell HW7.out 3).trans rfl; have hl3 : w6.cell? ⟨gw, 4, none⟩ = some (.int .i64 (spec_FewestOpened.F l0 l0.length 3)) := (blk_cell HW7.out 4).trans rfl; have hl4 : w6.cell? ⟨gw, 5, none⟩ = some (.int .i64 (spec_FewestOpened.F l0 l0.length 4)) := (blk_cell HW7.out 5).trans rfl; have hl5 : w6.cell? ⟨gw, 6, none⟩ = some (.int .i64 (spec_FewestOpened.F l0 l0.length 5)) := (blk_cell HW7.out 6).trans rfl; have hl6 : w6.cell? ⟨gw, 7, none⟩ = some (.int .i64 (spec_FewestOpened.F l0 l0.length 6)) := (blk_cell HW7.out 7).trans rfl; have hl7 : w6.cell? ⟨gw, 8, none⟩ = some (.int .i64 (spec_FewestOpened.F l0 l0.length 7)) := (blk_cell HW7.out 8).trans rfl; have hl8 : w6.cell? ⟨gw, 9, none⟩ = some (.int .i64 (spec_FewestOpened.F l0 l0.length 8)) := (blk_cell HW7.out 9).trans rfl; have hl9 : w6.cell? ⟨gw, 10, none⟩ = some (.int .i64 (spec_FewestOpened.F l0 l0.length 9)) := (blk_cell HW7.out 10).trans rfl) | (go_at_call 96; (obtain ⟨A7, c7, e7, hc7, hC7⟩ := Kd.R_reads HO6.out; subst e7; refine (spec_l03Open_from.calls w gw A1 c1 l1 (l0.length : Int) (spec_FewestOpened.F l0 l0.length 0) (spec_FewestOpened.F l0 l0.length 1) (spec_FewestOpened.F l0 l0.length 2) (spec_FewestOpened.F l0 l0.length 3) (spec_FewestOpened.F l0 l0.length 4) (spec_FewestOpened.F l0 l0.length 5) (spec_FewestOpened.F l0 l0.length 6) (spec_FewestOpened.F l0 l0.length 7) (spec_FewestOpened.F l0 l0.length 8) (spec_FewestOpened.F l0 l0.length 9) HD.out k A7 c7 [] [spec_FewestOpened.F l0 l0.length 0, spec_FewestOpened.F l0 l0.length 1, spec_FewestOpened.F l0 l0.length 2, spec_FewestOpened.F l0 l0.length 3, spec_FewestOpened.F l0 l0.length 4, spec_FewestOpened.F l0 l0.length 5, spec_FewestOpened.F l0 l0.length 6, spec_FewestOpened.F l0 l0.length 7, spec_FewestOpened.F l0 l0.length 8, spec_FewestOpened.F l0 l0.length 9] 0 [] 0 false (.slice none 0 0) w6 B m false ⟨below_then BI.out BI.out.size HB6.out, GW.out, HW7.out, Kd.R_nil _ _ _ _ _⟩ hC7 hc7 (fun ad e => by subst e; have q := Kd.R_base HO6.out ad.block rfl; have := blk_lt HWI.out; omega) rfl HF.out).mono ?_; rintro e w8 ⟨rfl, hk, vB2, hI⟩; have HI8 := Aside0.mk hI; clear hk hI; have hw2 : w8.cell? ⟨gw, 12, none⟩ = some vB2 := (blk_cell HI8.out.h 12).trans rfl; have hw3 : w8.cell? ⟨gw, 13, none⟩ = some (.int .i64 m) := (blk_cell HI8.out.h 13).trans rfl; have hw4 : w8.cell? ⟨gw, 14, none⟩ = some (.bool false) := (blk_cell HI8.out.h 14).trans rfl; obtain ⟨A9, c9, e9⟩ := Kd.R_slice HI8.out.rb; subst e9)))
          go_ret3
          exact ⟨_, rfl, spec_l03Open_from.lit [] (spec_l03Open_from.top rfl) HI8.out.b.size (Nat.zero_le _), below_alloc HI8.out.b _⟩
  · rw [if_neg hz] at h
    have e := Option.some.inj h
    simp only [Prod.mk.injEq] at e
    obtain ⟨rfl, rfl, rfl⟩ := e
    clear h
    have q2 : (c != 0) = true := bne_iff_ne.mpr hz
    go_enter Try.func30, Try.ntmps30
    go_wp2_with (first | (go_at_call 95; refine (spec_l03Needs.calls k A0 c0 l0 A1 c1 l1 c _ HR.out HC0.out HD.out HC1.out HC.out).mono ?_; rintro e w4 ⟨rfl, hb4⟩; have B4 := Aside0.mk hb4; clear hb4))
    go_ret3
    exact ⟨_, rfl, spec_l03Open_from.lit [] (spec_l03Open_from.top rfl) B4.out.size (Nat.zero_le _), below_alloc B4.out _⟩

end Go.Proofs.Ytjhjabibkkhmjaa.XFnExactFewestOpened
