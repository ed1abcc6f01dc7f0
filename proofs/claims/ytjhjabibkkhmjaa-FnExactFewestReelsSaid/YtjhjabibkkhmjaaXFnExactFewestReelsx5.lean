/- The functions that the law FnExactFewestReels reaches: each as a Lean function, and that its call does what that function says; no conditions. -/
import Derived.Test.YtjhjabibkkhmjaaXFnExactFewestReelsx0
import Derived.Test.YtjhjabibkkhmjaaXFnExactFewestReelsx3
import Derived.Test.YtjhjabibkkhmjaaXFnExactFewestReelsx4
namespace Go.Proofs.Ytjhjabibkkhmjaa.XFnExactFewestReels
open Go.RowKit Go.Proofs.YtjhjabibkkhmjaaW.PrintWords Go.Proofs.YtjhjabibkkhmjaaW.PrintLast Go.Proofs.YtjhjabibkkhmjaaW.PrintMore
attribute [local go_sem] max2_int min2_int max_two min_two max_three min_three max_four min_four   -- for this text's walks alone
set_option linter.unusedVariables false
set_option linter.unusedSimpArgs false

/-- A state of type 166 at block g of W; what its slices lead to came in by w0. -/
def IsS166 (w0 W : World) (g : Nat) (f0 : Int) (f1 : Int) (f2 : Int) (f3 : Int) (f4 : Int) (f5 : Int) (f6 : Int) (f7 : List (S159)) (f8 : Int) (f9 : Int) (f10 : Int) (f11 : List (List (S159))) (f12 : List Int) : Prop := ∃ A7 c7, ∃ A11 c11, ∃ A12 c12, W.heap[g]? = some (.cells #[.int .u8 f0, .int .u8 f1, .int .u8 f2, .int .u8 f3, .int .u8 f4, .int .u8 f5, .int .i64 f6, .slice A7 f7.length c7, .int .i64 f8, .int .i64 f9, .int .i64 f10, .slice A11 f11.length c11, .slice A12 f12.length c12] 166 (0, 0)) ∧ w0.heap.size ≤ g ∧ Kd.C k159 w0 A7 f7.length f7 ∧ Kd.C (Kd.slice 159 k159) w0 A11 f11.length f11 ∧ Kd.C (Kd.int .i64) w0 A12 f12.length f12
theorem IsS166.grown {w0 W : World} {g : Nat} {f0 : Int} {f1 : Int} {f2 : Int} {f3 : Int} {f4 : Int} {f5 : Int} {f6 : Int} {f7 : List (S159)} {f8 : Int} {f9 : Int} {f10 : Int} {f11 : List (List (S159))} {f12 : List Int} {W1 : World} {row : Option Nat} (h : IsS166 w0 W g f0 f1 f2 f3 f4 f5 f6 f7 f8 f9 f10 f11 f12) (hw : W.grownBy W1 row) (hne : some g ≠ row) : IsS166 w0 W1 g f0 f1 f2 f3 f4 f5 f6 f7 f8 f9 f10 f11 f12 := by
  obtain ⟨A7, c7, A11, c11, A12, c12, hb, hg, hr7, hr11, hr12⟩ := h
  exact ⟨A7, c7, A11, c11, A12, c12, blk_grown hb hw hne, hg, hr7, hr11, hr12⟩
theorem IsS166.own_neN {w0 W : World} {g : Nat} {f0 : Int} {f1 : Int} {f2 : Int} {f3 : Int} {f4 : Int} {f5 : Int} {f6 : Int} {f7 : List (S159)} {f8 : Int} {f9 : Int} {f10 : Int} {f11 : List (List (S159))} {f12 : List Int} {α : Type} {d : Kd α} {e : Nat} {base : Nat} {ok : Nat → Prop} {v : Value} {xs : List α} (h : IsS166 w0 W g f0 f1 f2 f3 f4 f5 f6 f7 f8 f9 f10 f11 f12) (ho : Kd.N d e W base ok v xs) (ht : e ≠ 166) : some g ≠ v.ownBlock := by
  obtain ⟨A7, c7, A11, c11, A12, c12, hb, hg, hr7, hr11, hr12⟩ := h
  exact Kd.N_ne ho hb ht
theorem IsS166.fresh {w0 W : World} {g : Nat} {f0 : Int} {f1 : Int} {f2 : Int} {f3 : Int} {f4 : Int} {f5 : Int} {f6 : Int} {f7 : List (S159)} {f8 : Int} {f9 : Int} {f10 : Int} {f11 : List (List (S159))} {f12 : List Int} (h : IsS166 w0 W g f0 f1 f2 f3 f4 f5 f6 f7 f8 f9 f10 f11 f12) : ∀ k, W.heap.size ≤ k → k ≠ g := by
  obtain ⟨A7, c7, A11, c11, A12, c12, hb, hg, hr7, hr11, hr12⟩ := h
  exact Kd.freshB hb
theorem IsS166.kept {w0 W : World} {g : Nat} {f0 : Int} {f1 : Int} {f2 : Int} {f3 : Int} {f4 : Int} {f5 : Int} {f6 : Int} {f7 : List (S159)} {f8 : Int} {f9 : Int} {f10 : Int} {f11 : List (List (S159))} {f12 : List Int} {W1 : World} {S : Nat → Prop} (h : IsS166 w0 W g f0 f1 f2 f3 f4 f5 f6 f7 f8 f9 f10 f11 f12) (hk : Kept W W1 S) (hne : ¬ S g) : IsS166 w0 W1 g f0 f1 f2 f3 f4 f5 f6 f7 f8 f9 f10 f11 f12 := by
  obtain ⟨A7, c7, A11, c11, A12, c12, hb, hg, hr7, hr11, hr12⟩ := h
  exact ⟨A7, c7, A11, c11, A12, c12, blk_kept hb hk hne, hg, hr7, hr11, hr12⟩
theorem IsS166.below {w0 W : World} {g : Nat} {f0 : Int} {f1 : Int} {f2 : Int} {f3 : Int} {f4 : Int} {f5 : Int} {f6 : Int} {f7 : List (S159)} {f8 : Int} {f9 : Int} {f10 : Int} {f11 : List (List (S159))} {f12 : List Int} {W1 : World} (h : IsS166 w0 W g f0 f1 f2 f3 f4 f5 f6 f7 f8 f9 f10 f11 f12) (hw : Below W.heap.size W W1) : IsS166 w0 W1 g f0 f1 f2 f3 f4 f5 f6 f7 f8 f9 f10 f11 f12 := h.grown (grown_of_below hw none) (by simp)
theorem IsS166.alloc {w0 W : World} {g : Nat} {f0 : Int} {f1 : Int} {f2 : Int} {f3 : Int} {f4 : Int} {f5 : Int} {f6 : Int} {f7 : List (S159)} {f8 : Int} {f9 : Int} {f10 : Int} {f11 : List (List (S159))} {f12 : List Int} (h : IsS166 w0 W g f0 f1 f2 f3 f4 f5 f6 f7 f8 f9 f10 f11 f12) (o : Obj) : IsS166 w0 (W.alloc o) g f0 f1 f2 f3 f4 f5 f6 f7 f8 f9 f10 f11 f12 := h.below (below_alloc (Below.refl _ _) o)
theorem IsS166.drewN {w0 W : World} {g : Nat} {f0 : Int} {f1 : Int} {f2 : Int} {f3 : Int} {f4 : Int} {f5 : Int} {f6 : Int} {f7 : List (S159)} {f8 : Int} {f9 : Int} {f10 : Int} {f11 : List (List (S159))} {f12 : List Int} (h : IsS166 w0 W g f0 f1 f2 f3 f4 f5 f6 f7 f8 f9 f10 f11 f12) (m : Nat) : IsS166 w0 (W.drewN m) g f0 f1 f2 f3 f4 f5 f6 f7 f8 f9 f10 f11 f12 := h
theorem IsS166.drew {w0 W : World} {g : Nat} {f0 : Int} {f1 : Int} {f2 : Int} {f3 : Int} {f4 : Int} {f5 : Int} {f6 : Int} {f7 : List (S159)} {f8 : Int} {f9 : Int} {f10 : Int} {f11 : List (List (S159))} {f12 : List Int} (h : IsS166 w0 W g f0 f1 f2 f3 f4 f5 f6 f7 f8 f9 f10 f11 f12) : IsS166 w0 W.drew g f0 f1 f2 f3 f4 f5 f6 f7 f8 f9 f10 f11 f12 := h
theorem IsS166.at_ {w0 W : World} {g : Nat} {f0 : Int} {f1 : Int} {f2 : Int} {f3 : Int} {f4 : Int} {f5 : Int} {f6 : Int} {f7 : List (S159)} {f8 : Int} {f9 : Int} {f10 : Int} {f11 : List (List (S159))} {f12 : List Int} {w' : World} {m : Nat} (hq : W.drewN m = w') (h : IsS166 w0 W g f0 f1 f2 f3 f4 f5 f6 f7 f8 f9 f10 f11 f12) : IsS166 w0 w' g f0 f1 f2 f3 f4 f5 f6 f7 f8 f9 f10 f11 f12 := by subst hq; exact IsS166.drewN h m
theorem IsS166.apart {w0 W : World} {g : Nat} {f0 : Int} {f1 : Int} {f2 : Int} {f3 : Int} {f4 : Int} {f5 : Int} {f6 : Int} {f7 : List (S159)} {f8 : Int} {f9 : Int} {f10 : Int} {f11 : List (List (S159))} {f12 : List Int} {α : Type} {d : Kd α} {e : Nat} {base : Nat} {ok : Nat → Prop} {v : Value} {xs : List α} (h : IsS166 w0 W g f0 f1 f2 f3 f4 f5 f6 f7 f8 f9 f10 f11 f12) (ho : d.R e W base ok v xs) (ht : ∀ q, q ∈ e :: d.E → q ≠ 166) : d.R e W base (fun k => ok k ∧ k ≠ g) v xs := by
  obtain ⟨A7, c7, A11, c11, A12, c12, hb, hg, hr7, hr11, hr12⟩ := h
  exact Kd.R_types ho hb ht
theorem IsS166.own_ne {w0 W : World} {g : Nat} {f0 : Int} {f1 : Int} {f2 : Int} {f3 : Int} {f4 : Int} {f5 : Int} {f6 : Int} {f7 : List (S159)} {f8 : Int} {f9 : Int} {f10 : Int} {f11 : List (List (S159))} {f12 : List Int} {α : Type} {d : Kd α} {e : Nat} {base : Nat} {ok : Nat → Prop} {v : Value} {xs : List α} (h : IsS166 w0 W g f0 f1 f2 f3 f4 f5 f6 f7 f8 f9 f10 f11 f12) (ho : d.R e W base ok v xs) (ht : e ≠ 166) : some g ≠ v.ownBlock := by
  obtain ⟨A7, c7, A11, c11, A12, c12, hb, hg, hr7, hr11, hr12⟩ := h
  exact Kd.R_ne ho hb ht
theorem IsS166.apartQ {w0 W : World} {g : Nat} {f0 : Int} {f1 : Int} {f2 : Int} {f3 : Int} {f4 : Int} {f5 : Int} {f6 : Int} {f7 : List (S159)} {f8 : Int} {f9 : Int} {f10 : Int} {f11 : List (List (S159))} {f12 : List Int} {α : Type} {d : Kd α} {e : Nat} {base : Nat} {ok : Nat → Prop} {v : Value} {xs : List α} (h : IsS166 w0 W g f0 f1 f2 f3 f4 f5 f6 f7 f8 f9 f10 f11 f12) (ho : d.Q e W base ok v xs) (ht : ∀ q, q ∈ e :: d.E → q ≠ 166) : d.Q e W base (fun k => ok k ∧ k ≠ g) v xs := by
  obtain ⟨A7, c7, A11, c11, A12, c12, hb, hg, hr7, hr11, hr12⟩ := h
  exact Kd.Q_types ho hb ht
theorem IsS166.own_neQ {w0 W : World} {g : Nat} {f0 : Int} {f1 : Int} {f2 : Int} {f3 : Int} {f4 : Int} {f5 : Int} {f6 : Int} {f7 : List (S159)} {f8 : Int} {f9 : Int} {f10 : Int} {f11 : List (List (S159))} {f12 : List Int} {α : Type} {d : Kd α} {e : Nat} {base : Nat} {ok : Nat → Prop} {v : Value} {xs : List α} (h : IsS166 w0 W g f0 f1 f2 f3 f4 f5 f6 f7 f8 f9 f10 f11 f12) (ho : d.Q e W base ok v xs) (ht : e ≠ 166) : some g ≠ v.ownBlock := by
  obtain ⟨A7, c7, A11, c11, A12, c12, hb, hg, hr7, hr11, hr12⟩ := h
  exact Kd.Q_ne ho hb ht
theorem IsS166.apartS {w0 W : World} {g : Nat} {f0 : Int} {f1 : Int} {f2 : Int} {f3 : Int} {f4 : Int} {f5 : Int} {f6 : Int} {f7 : List (S159)} {f8 : Int} {f9 : Int} {f10 : Int} {f11 : List (List (S159))} {f12 : List Int} {α : Type} {d : Kd α} {e : Nat} {base : Nat} {ok : Nat → Prop} {v : Value} {xs : List α} (h : IsS166 w0 W g f0 f1 f2 f3 f4 f5 f6 f7 f8 f9 f10 f11 f12) (ho : d.S e W base ok v xs) (ht : ∀ q, q ∈ e :: d.E → q ≠ 166) : d.S e W base (fun k => ok k ∧ k ≠ g) v xs := by
  obtain ⟨A7, c7, A11, c11, A12, c12, hb, hg, hr7, hr11, hr12⟩ := h
  exact Kd.S_types ho hb ht
theorem IsS166.own_neS {w0 W : World} {g : Nat} {f0 : Int} {f1 : Int} {f2 : Int} {f3 : Int} {f4 : Int} {f5 : Int} {f6 : Int} {f7 : List (S159)} {f8 : Int} {f9 : Int} {f10 : Int} {f11 : List (List (S159))} {f12 : List Int} {α : Type} {d : Kd α} {e : Nat} {base : Nat} {ok : Nat → Prop} {v : Value} {xs : List α} (h : IsS166 w0 W g f0 f1 f2 f3 f4 f5 f6 f7 f8 f9 f10 f11 f12) (ho : d.S e W base ok v xs) (ht : e ≠ 166) : some g ≠ v.ownBlock := by
  obtain ⟨A7, c7, A11, c11, A12, c12, hb, hg, hr7, hr11, hr12⟩ := h
  exact Kd.S_ne ho hb ht
theorem IsS166.lt {w0 W : World} {g : Nat} {f0 : Int} {f1 : Int} {f2 : Int} {f3 : Int} {f4 : Int} {f5 : Int} {f6 : Int} {f7 : List (S159)} {f8 : Int} {f9 : Int} {f10 : Int} {f11 : List (List (S159))} {f12 : List Int} (h : IsS166 w0 W g f0 f1 f2 f3 f4 f5 f6 f7 f8 f9 f10 f11 f12) : g < W.heap.size := by
  obtain ⟨A7, c7, A11, c11, A12, c12, hb, hg, hr7, hr11, hr12⟩ := h
  exact blk_lt hb
theorem IsS166.ge {w0 W : World} {g : Nat} {f0 : Int} {f1 : Int} {f2 : Int} {f3 : Int} {f4 : Int} {f5 : Int} {f6 : Int} {f7 : List (S159)} {f8 : Int} {f9 : Int} {f10 : Int} {f11 : List (List (S159))} {f12 : List Int} (h : IsS166 w0 W g f0 f1 f2 f3 f4 f5 f6 f7 f8 f9 f10 f11 f12) : w0.heap.size ≤ g := by
  obtain ⟨A7, c7, A11, c11, A12, c12, hb, hg, hr7, hr11, hr12⟩ := h
  exact hg
theorem IsS166.ne_blk {w0 W : World} {g : Nat} {f0 : Int} {f1 : Int} {f2 : Int} {f3 : Int} {f4 : Int} {f5 : Int} {f6 : Int} {f7 : List (S159)} {f8 : Int} {f9 : Int} {f10 : Int} {f11 : List (List (S159))} {f12 : List Int} {a : Nat} {cs : Array Value} {t : TypeId} {fr : Nat × Nat} (h : IsS166 w0 W g f0 f1 f2 f3 f4 f5 f6 f7 f8 f9 f10 f11 f12) (hb2 : W.heap[a]? = some (.cells cs t fr)) (ht : t ≠ 166) : g ≠ a := by
  obtain ⟨A7, c7, A11, c11, A12, c12, hb, hg, hr7, hr11, hr12⟩ := h
  rintro rfl
  rw [hb] at hb2
  injection hb2 with hb2
  injection hb2 with _ ht2
  exact ht ht2.symm
theorem IsS166.far {w0 W : World} {g : Nat} {f0 : Int} {f1 : Int} {f2 : Int} {f3 : Int} {f4 : Int} {f5 : Int} {f6 : Int} {f7 : List (S159)} {f8 : Int} {f9 : Int} {f10 : Int} {f11 : List (List (S159))} {f12 : List Int} {p : Addr} (h : IsS166 w0 W g f0 f1 f2 f3 f4 f5 f6 f7 f8 f9 f10 f11 f12) (hne : g ≠ p.block) (u : Value) : IsS166 w0 (W.setCell p u) g f0 f1 f2 f3 f4 f5 f6 f7 f8 f9 f10 f11 f12 := by
  obtain ⟨A7, c7, A11, c11, A12, c12, hb, hg, hr7, hr11, hr12⟩ := h
  exact ⟨A7, c7, A11, c11, A12, c12, blk_far hb hne u, hg, hr7, hr11, hr12⟩
theorem cellS166_0 {W : World} {g : Nat} {A7 : Option Addr} {c7 : Nat} {A11 : Option Addr} {c11 : Nat} {A12 : Option Addr} {c12 : Nat} {f0 : Int} {f1 : Int} {f2 : Int} {f3 : Int} {f4 : Int} {f5 : Int} {f6 : Int} {f7 : List (S159)} {f8 : Int} {f9 : Int} {f10 : Int} {f11 : List (List (S159))} {f12 : List Int} (h : W.heap[g]? = some (.cells #[.int .u8 f0, .int .u8 f1, .int .u8 f2, .int .u8 f3, .int .u8 f4, .int .u8 f5, .int .i64 f6, .slice A7 f7.length c7, .int .i64 f8, .int .i64 f9, .int .i64 f10, .slice A11 f11.length c11, .slice A12 f12.length c12] 166 (0, 0))) : W.cell? ⟨g, 0, none⟩ = some (.int .u8 f0) := (blk_cell h 0).trans rfl
theorem IsS166.set_0 {w0 W : World} {g : Nat} {f0 : Int} {f1 : Int} {f2 : Int} {f3 : Int} {f4 : Int} {f5 : Int} {f6 : Int} {f7 : List (S159)} {f8 : Int} {f9 : Int} {f10 : Int} {f11 : List (List (S159))} {f12 : List Int} (h : IsS166 w0 W g f0 f1 f2 f3 f4 f5 f6 f7 f8 f9 f10 f11 f12) (x : Int) : IsS166 w0 (W.setCell ⟨g, 0, none⟩ (.int .u8 x)) g x f1 f2 f3 f4 f5 f6 f7 f8 f9 f10 f11 f12 := by
  obtain ⟨A7, c7, A11, c11, A12, c12, hb, hg, hr7, hr11, hr12⟩ := h
  exact ⟨A7, c7, A11, c11, A12, c12, by simpa using blk_set hb 0 (.int .u8 x), hg, hr7, hr11, hr12⟩
theorem cellS166_1 {W : World} {g : Nat} {A7 : Option Addr} {c7 : Nat} {A11 : Option Addr} {c11 : Nat} {A12 : Option Addr} {c12 : Nat} {f0 : Int} {f1 : Int} {f2 : Int} {f3 : Int} {f4 : Int} {f5 : Int} {f6 : Int} {f7 : List (S159)} {f8 : Int} {f9 : Int} {f10 : Int} {f11 : List (List (S159))} {f12 : List Int} (h : W.heap[g]? = some (.cells #[.int .u8 f0, .int .u8 f1, .int .u8 f2, .int .u8 f3, .int .u8 f4, .int .u8 f5, .int .i64 f6, .slice A7 f7.length c7, .int .i64 f8, .int .i64 f9, .int .i64 f10, .slice A11 f11.length c11, .slice A12 f12.length c12] 166 (0, 0))) : W.cell? ⟨g, 1, none⟩ = some (.int .u8 f1) := (blk_cell h 1).trans rfl
theorem IsS166.set_1 {w0 W : World} {g : Nat} {f0 : Int} {f1 : Int} {f2 : Int} {f3 : Int} {f4 : Int} {f5 : Int} {f6 : Int} {f7 : List (S159)} {f8 : Int} {f9 : Int} {f10 : Int} {f11 : List (List (S159))} {f12 : List Int} (h : IsS166 w0 W g f0 f1 f2 f3 f4 f5 f6 f7 f8 f9 f10 f11 f12) (x : Int) : IsS166 w0 (W.setCell ⟨g, 1, none⟩ (.int .u8 x)) g f0 x f2 f3 f4 f5 f6 f7 f8 f9 f10 f11 f12 := by
  obtain ⟨A7, c7, A11, c11, A12, c12, hb, hg, hr7, hr11, hr12⟩ := h
  exact ⟨A7, c7, A11, c11, A12, c12, by simpa using blk_set hb 1 (.int .u8 x), hg, hr7, hr11, hr12⟩
theorem cellS166_2 {W : World} {g : Nat} {A7 : Option Addr} {c7 : Nat} {A11 : Option Addr} {c11 : Nat} {A12 : Option Addr} {c12 : Nat} {f0 : Int} {f1 : Int} {f2 : Int} {f3 : Int} {f4 : Int} {f5 : Int} {f6 : Int} {f7 : List (S159)} {f8 : Int} {f9 : Int} {f10 : Int} {f11 : List (List (S159))} {f12 : List Int} (h : W.heap[g]? = some (.cells #[.int .u8 f0, .int .u8 f1, .int .u8 f2, .int .u8 f3, .int .u8 f4, .int .u8 f5, .int .i64 f6, .slice A7 f7.length c7, .int .i64 f8, .int .i64 f9, .int .i64 f10, .slice A11 f11.length c11, .slice A12 f12.length c12] 166 (0, 0))) : W.cell? ⟨g, 2, none⟩ = some (.int .u8 f2) := (blk_cell h 2).trans rfl
theorem IsS166.set_2 {w0 W : World} {g : Nat} {f0 : Int} {f1 : Int} {f2 : Int} {f3 : Int} {f4 : Int} {f5 : Int} {f6 : Int} {f7 : List (S159)} {f8 : Int} {f9 : Int} {f10 : Int} {f11 : List (List (S159))} {f12 : List Int} (h : IsS166 w0 W g f0 f1 f2 f3 f4 f5 f6 f7 f8 f9 f10 f11 f12) (x : Int) : IsS166 w0 (W.setCell ⟨g, 2, none⟩ (.int .u8 x)) g f0 f1 x f3 f4 f5 f6 f7 f8 f9 f10 f11 f12 := by
  obtain ⟨A7, c7, A11, c11, A12, c12, hb, hg, hr7, hr11, hr12⟩ := h
  exact ⟨A7, c7, A11, c11, A12, c12, by simpa using blk_set hb 2 (.int .u8 x), hg, hr7, hr11, hr12⟩
theorem cellS166_3 {W : World} {g : Nat} {A7 : Option Addr} {c7 : Nat} {A11 : Option Addr} {c11 : Nat} {A12 : Option Addr} {c12 : Nat} {f0 : Int} {f1 : Int} {f2 : Int} {f3 : Int} {f4 : Int} {f5 : Int} {f6 : Int} {f7 : List (S159)} {f8 : Int} {f9 : Int} {f10 : Int} {f11 : List (List (S159))} {f12 : List Int} (h : W.heap[g]? = some (.cells #[.int .u8 f0, .int .u8 f1, .int .u8 f2, .int .u8 f3, .int .u8 f4, .int .u8 f5, .int .i64 f6, .slice A7 f7.length c7, .int .i64 f8, .int .i64 f9, .int .i64 f10, .slice A11 f11.length c11, .slice A12 f12.length c12] 166 (0, 0))) : W.cell? ⟨g, 3, none⟩ = some (.int .u8 f3) := (blk_cell h 3).trans rfl
theorem IsS166.set_3 {w0 W : World} {g : Nat} {f0 : Int} {f1 : Int} {f2 : Int} {f3 : Int} {f4 : Int} {f5 : Int} {f6 : Int} {f7 : List (S159)} {f8 : Int} {f9 : Int} {f10 : Int} {f11 : List (List (S159))} {f12 : List Int} (h : IsS166 w0 W g f0 f1 f2 f3 f4 f5 f6 f7 f8 f9 f10 f11 f12) (x : Int) : IsS166 w0 (W.setCell ⟨g, 3, none⟩ (.int .u8 x)) g f0 f1 f2 x f4 f5 f6 f7 f8 f9 f10 f11 f12 := by
  obtain ⟨A7, c7, A11, c11, A12, c12, hb, hg, hr7, hr11, hr12⟩ := h
  exact ⟨A7, c7, A11, c11, A12, c12, by simpa using blk_set hb 3 (.int .u8 x), hg, hr7, hr11, hr12⟩
theorem cellS166_4 {W : World} {g : Nat} {A7 : Option Addr} {c7 : Nat} {A11 : Option Addr} {c11 : Nat} {A12 : Option Addr} {c12 : Nat} {f0 : Int} {f1 : Int} {f2 : Int} {f3 : Int} {f4 : Int} {f5 : Int} {f6 : Int} {f7 : List (S159)} {f8 : Int} {f9 : Int} {f10 : Int} {f11 : List (List (S159))} {f12 : List Int} (h : W.heap[g]? = some (.cells #[.int .u8 f0, .int .u8 f1, .int .u8 f2, .int .u8 f3, .int .u8 f4, .int .u8 f5, .int .i64 f6, .slice A7 f7.length c7, .int .i64 f8, .int .i64 f9, .int .i64 f10, .slice A11 f11.length c11, .slice A12 f12.length c12] 166 (0, 0))) : W.cell? ⟨g, 4, none⟩ = some (.int .u8 f4) := (blk_cell h 4).trans rfl
theorem IsS166.set_4 {w0 W : World} {g : Nat} {f0 : Int} {f1 : Int} {f2 : Int} {f3 : Int} {f4 : Int} {f5 : Int} {f6 : Int} {f7 : List (S159)} {f8 : Int} {f9 : Int} {f10 : Int} {f11 : List (List (S159))} {f12 : List Int} (h : IsS166 w0 W g f0 f1 f2 f3 f4 f5 f6 f7 f8 f9 f10 f11 f12) (x : Int) : IsS166 w0 (W.setCell ⟨g, 4, none⟩ (.int .u8 x)) g f0 f1 f2 f3 x f5 f6 f7 f8 f9 f10 f11 f12 := by
  obtain ⟨A7, c7, A11, c11, A12, c12, hb, hg, hr7, hr11, hr12⟩ := h
  exact ⟨A7, c7, A11, c11, A12, c12, by simpa using blk_set hb 4 (.int .u8 x), hg, hr7, hr11, hr12⟩
theorem cellS166_5 {W : World} {g : Nat} {A7 : Option Addr} {c7 : Nat} {A11 : Option Addr} {c11 : Nat} {A12 : Option Addr} {c12 : Nat} {f0 : Int} {f1 : Int} {f2 : Int} {f3 : Int} {f4 : Int} {f5 : Int} {f6 : Int} {f7 : List (S159)} {f8 : Int} {f9 : Int} {f10 : Int} {f11 : List (List (S159))} {f12 : List Int} (h : W.heap[g]? = some (.cells #[.int .u8 f0, .int .u8 f1, .int .u8 f2, .int .u8 f3, .int .u8 f4, .int .u8 f5, .int .i64 f6, .slice A7 f7.length c7, .int .i64 f8, .int .i64 f9, .int .i64 f10, .slice A11 f11.length c11, .slice A12 f12.length c12] 166 (0, 0))) : W.cell? ⟨g, 5, none⟩ = some (.int .u8 f5) := (blk_cell h 5).trans rfl
theorem IsS166.set_5 {w0 W : World} {g : Nat} {f0 : Int} {f1 : Int} {f2 : Int} {f3 : Int} {f4 : Int} {f5 : Int} {f6 : Int} {f7 : List (S159)} {f8 : Int} {f9 : Int} {f10 : Int} {f11 : List (List (S159))} {f12 : List Int} (h : IsS166 w0 W g f0 f1 f2 f3 f4 f5 f6 f7 f8 f9 f10 f11 f12) (x : Int) : IsS166 w0 (W.setCell ⟨g, 5, none⟩ (.int .u8 x)) g f0 f1 f2 f3 f4 x f6 f7 f8 f9 f10 f11 f12 := by
  obtain ⟨A7, c7, A11, c11, A12, c12, hb, hg, hr7, hr11, hr12⟩ := h
  exact ⟨A7, c7, A11, c11, A12, c12, by simpa using blk_set hb 5 (.int .u8 x), hg, hr7, hr11, hr12⟩
theorem cellS166_6 {W : World} {g : Nat} {A7 : Option Addr} {c7 : Nat} {A11 : Option Addr} {c11 : Nat} {A12 : Option Addr} {c12 : Nat} {f0 : Int} {f1 : Int} {f2 : Int} {f3 : Int} {f4 : Int} {f5 : Int} {f6 : Int} {f7 : List (S159)} {f8 : Int} {f9 : Int} {f10 : Int} {f11 : List (List (S159))} {f12 : List Int} (h : W.heap[g]? = some (.cells #[.int .u8 f0, .int .u8 f1, .int .u8 f2, .int .u8 f3, .int .u8 f4, .int .u8 f5, .int .i64 f6, .slice A7 f7.length c7, .int .i64 f8, .int .i64 f9, .int .i64 f10, .slice A11 f11.length c11, .slice A12 f12.length c12] 166 (0, 0))) : W.cell? ⟨g, 6, none⟩ = some (.int .i64 f6) := (blk_cell h 6).trans rfl
theorem IsS166.set_6 {w0 W : World} {g : Nat} {f0 : Int} {f1 : Int} {f2 : Int} {f3 : Int} {f4 : Int} {f5 : Int} {f6 : Int} {f7 : List (S159)} {f8 : Int} {f9 : Int} {f10 : Int} {f11 : List (List (S159))} {f12 : List Int} (h : IsS166 w0 W g f0 f1 f2 f3 f4 f5 f6 f7 f8 f9 f10 f11 f12) (x : Int) : IsS166 w0 (W.setCell ⟨g, 6, none⟩ (.int .i64 x)) g f0 f1 f2 f3 f4 f5 x f7 f8 f9 f10 f11 f12 := by
  obtain ⟨A7, c7, A11, c11, A12, c12, hb, hg, hr7, hr11, hr12⟩ := h
  exact ⟨A7, c7, A11, c11, A12, c12, by simpa using blk_set hb 6 (.int .i64 x), hg, hr7, hr11, hr12⟩
theorem cellS166_7 {W : World} {g : Nat} {A7 : Option Addr} {c7 : Nat} {A11 : Option Addr} {c11 : Nat} {A12 : Option Addr} {c12 : Nat} {f0 : Int} {f1 : Int} {f2 : Int} {f3 : Int} {f4 : Int} {f5 : Int} {f6 : Int} {f7 : List (S159)} {f8 : Int} {f9 : Int} {f10 : Int} {f11 : List (List (S159))} {f12 : List Int} (h : W.heap[g]? = some (.cells #[.int .u8 f0, .int .u8 f1, .int .u8 f2, .int .u8 f3, .int .u8 f4, .int .u8 f5, .int .i64 f6, .slice A7 f7.length c7, .int .i64 f8, .int .i64 f9, .int .i64 f10, .slice A11 f11.length c11, .slice A12 f12.length c12] 166 (0, 0))) : W.cell? ⟨g, 7, none⟩ = some (.slice A7 f7.length c7) := (blk_cell h 7).trans rfl
theorem cellS166_8 {W : World} {g : Nat} {A7 : Option Addr} {c7 : Nat} {A11 : Option Addr} {c11 : Nat} {A12 : Option Addr} {c12 : Nat} {f0 : Int} {f1 : Int} {f2 : Int} {f3 : Int} {f4 : Int} {f5 : Int} {f6 : Int} {f7 : List (S159)} {f8 : Int} {f9 : Int} {f10 : Int} {f11 : List (List (S159))} {f12 : List Int} (h : W.heap[g]? = some (.cells #[.int .u8 f0, .int .u8 f1, .int .u8 f2, .int .u8 f3, .int .u8 f4, .int .u8 f5, .int .i64 f6, .slice A7 f7.length c7, .int .i64 f8, .int .i64 f9, .int .i64 f10, .slice A11 f11.length c11, .slice A12 f12.length c12] 166 (0, 0))) : W.cell? ⟨g, 8, none⟩ = some (.int .i64 f8) := (blk_cell h 8).trans rfl
theorem IsS166.set_8 {w0 W : World} {g : Nat} {f0 : Int} {f1 : Int} {f2 : Int} {f3 : Int} {f4 : Int} {f5 : Int} {f6 : Int} {f7 : List (S159)} {f8 : Int} {f9 : Int} {f10 : Int} {f11 : List (List (S159))} {f12 : List Int} (h : IsS166 w0 W g f0 f1 f2 f3 f4 f5 f6 f7 f8 f9 f10 f11 f12) (x : Int) : IsS166 w0 (W.setCell ⟨g, 8, none⟩ (.int .i64 x)) g f0 f1 f2 f3 f4 f5 f6 f7 x f9 f10 f11 f12 := by
  obtain ⟨A7, c7, A11, c11, A12, c12, hb, hg, hr7, hr11, hr12⟩ := h
  exact ⟨A7, c7, A11, c11, A12, c12, by simpa using blk_set hb 8 (.int .i64 x), hg, hr7, hr11, hr12⟩
theorem cellS166_9 {W : World} {g : Nat} {A7 : Option Addr} {c7 : Nat} {A11 : Option Addr} {c11 : Nat} {A12 : Option Addr} {c12 : Nat} {f0 : Int} {f1 : Int} {f2 : Int} {f3 : Int} {f4 : Int} {f5 : Int} {f6 : Int} {f7 : List (S159)} {f8 : Int} {f9 : Int} {f10 : Int} {f11 : List (List (S159))} {f12 : List Int} (h : W.heap[g]? = some (.cells #[.int .u8 f0, .int .u8 f1, .int .u8 f2, .int .u8 f3, .int .u8 f4, .int .u8 f5, .int .i64 f6, .slice A7 f7.length c7, .int .i64 f8, .int .i64 f9, .int .i64 f10, .slice A11 f11.length c11, .slice A12 f12.length c12] 166 (0, 0))) : W.cell? ⟨g, 9, none⟩ = some (.int .i64 f9) := (blk_cell h 9).trans rfl
theorem IsS166.set_9 {w0 W : World} {g : Nat} {f0 : Int} {f1 : Int} {f2 : Int} {f3 : Int} {f4 : Int} {f5 : Int} {f6 : Int} {f7 : List (S159)} {f8 : Int} {f9 : Int} {f10 : Int} {f11 : List (List (S159))} {f12 : List Int} (h : IsS166 w0 W g f0 f1 f2 f3 f4 f5 f6 f7 f8 f9 f10 f11 f12) (x : Int) : IsS166 w0 (W.setCell ⟨g, 9, none⟩ (.int .i64 x)) g f0 f1 f2 f3 f4 f5 f6 f7 f8 x f10 f11 f12 := by
  obtain ⟨A7, c7, A11, c11, A12, c12, hb, hg, hr7, hr11, hr12⟩ := h
  exact ⟨A7, c7, A11, c11, A12, c12, by simpa using blk_set hb 9 (.int .i64 x), hg, hr7, hr11, hr12⟩
theorem cellS166_10 {W : World} {g : Nat} {A7 : Option Addr} {c7 : Nat} {A11 : Option Addr} {c11 : Nat} {A12 : Option Addr} {c12 : Nat} {f0 : Int} {f1 : Int} {f2 : Int} {f3 : Int} {f4 : Int} {f5 : Int} {f6 : Int} {f7 : List (S159)} {f8 : Int} {f9 : Int} {f10 : Int} {f11 : List (List (S159))} {f12 : List Int} (h : W.heap[g]? = some (.cells #[.int .u8 f0, .int .u8 f1, .int .u8 f2, .int .u8 f3, .int .u8 f4, .int .u8 f5, .int .i64 f6, .slice A7 f7.length c7, .int .i64 f8, .int .i64 f9, .int .i64 f10, .slice A11 f11.length c11, .slice A12 f12.length c12] 166 (0, 0))) : W.cell? ⟨g, 10, none⟩ = some (.int .i64 f10) := (blk_cell h 10).trans rfl
theorem IsS166.set_10 {w0 W : World} {g : Nat} {f0 : Int} {f1 : Int} {f2 : Int} {f3 : Int} {f4 : Int} {f5 : Int} {f6 : Int} {f7 : List (S159)} {f8 : Int} {f9 : Int} {f10 : Int} {f11 : List (List (S159))} {f12 : List Int} (h : IsS166 w0 W g f0 f1 f2 f3 f4 f5 f6 f7 f8 f9 f10 f11 f12) (x : Int) : IsS166 w0 (W.setCell ⟨g, 10, none⟩ (.int .i64 x)) g f0 f1 f2 f3 f4 f5 f6 f7 f8 f9 x f11 f12 := by
  obtain ⟨A7, c7, A11, c11, A12, c12, hb, hg, hr7, hr11, hr12⟩ := h
  exact ⟨A7, c7, A11, c11, A12, c12, by simpa using blk_set hb 10 (.int .i64 x), hg, hr7, hr11, hr12⟩
theorem cellS166_11 {W : World} {g : Nat} {A7 : Option Addr} {c7 : Nat} {A11 : Option Addr} {c11 : Nat} {A12 : Option Addr} {c12 : Nat} {f0 : Int} {f1 : Int} {f2 : Int} {f3 : Int} {f4 : Int} {f5 : Int} {f6 : Int} {f7 : List (S159)} {f8 : Int} {f9 : Int} {f10 : Int} {f11 : List (List (S159))} {f12 : List Int} (h : W.heap[g]? = some (.cells #[.int .u8 f0, .int .u8 f1, .int .u8 f2, .int .u8 f3, .int .u8 f4, .int .u8 f5, .int .i64 f6, .slice A7 f7.length c7, .int .i64 f8, .int .i64 f9, .int .i64 f10, .slice A11 f11.length c11, .slice A12 f12.length c12] 166 (0, 0))) : W.cell? ⟨g, 11, none⟩ = some (.slice A11 f11.length c11) := (blk_cell h 11).trans rfl
theorem cellS166_12 {W : World} {g : Nat} {A7 : Option Addr} {c7 : Nat} {A11 : Option Addr} {c11 : Nat} {A12 : Option Addr} {c12 : Nat} {f0 : Int} {f1 : Int} {f2 : Int} {f3 : Int} {f4 : Int} {f5 : Int} {f6 : Int} {f7 : List (S159)} {f8 : Int} {f9 : Int} {f10 : Int} {f11 : List (List (S159))} {f12 : List Int} (h : W.heap[g]? = some (.cells #[.int .u8 f0, .int .u8 f1, .int .u8 f2, .int .u8 f3, .int .u8 f4, .int .u8 f5, .int .i64 f6, .slice A7 f7.length c7, .int .i64 f8, .int .i64 f9, .int .i64 f10, .slice A11 f11.length c11, .slice A12 f12.length c12] 166 (0, 0))) : W.cell? ⟨g, 12, none⟩ = some (.slice A12 f12.length c12) := (blk_cell h 12).trans rfl
theorem IsS166.new (w0 W : World) (A7 : Option Addr) (c7 : Nat) (A11 : Option Addr) (c11 : Nat) (A12 : Option Addr) (c12 : Nat) (f0 : Int) (f1 : Int) (f2 : Int) (f3 : Int) (f4 : Int) (f5 : Int) (f6 : Int) (f7 : List (S159)) (f8 : Int) (f9 : Int) (f10 : Int) (f11 : List (List (S159))) (f12 : List Int) (hB : Below w0.heap.size w0 W) (hr7 : Kd.C k159 w0 A7 f7.length f7) (hr11 : Kd.C (Kd.slice 159 k159) w0 A11 f11.length f11) (hr12 : Kd.C (Kd.int .i64) w0 A12 f12.length f12) : IsS166 w0 (W.alloc (.cells #[.int .u8 f0, .int .u8 f1, .int .u8 f2, .int .u8 f3, .int .u8 f4, .int .u8 f5, .int .i64 f6, .slice A7 f7.length c7, .int .i64 f8, .int .i64 f9, .int .i64 f10, .slice A11 f11.length c11, .slice A12 f12.length c12] 166)) W.heap.size f0 f1 f2 f3 f4 f5 f6 f7 f8 f9 f10 f11 f12 := ⟨A7, c7, A11, c11, A12, c12, by simpa using heap_alloc_new W _, hB.size, hr7, hr11, hr12⟩

/-! ### impl_winder_wind: function 123 -/
mutual
/-- Winds the strands from i on: whether all are wound, whether the budget was enough; the reels, the numbers, the tries. -/
def impl_winder_wind.f (m0 m1 m2 m3 m4 m5 hold : Int) (l : List S159) (most budget : Int) : Nat → Nat → List (List S159) → List Int → Int → Option (Bool × Bool × List (List S159) × List Int × Int)
  | 0, _, _, _, _ => none
  | k + 1, i, rs, own, tries =>
    if i = l.length then some (true, true, rs, own, tries)
    else if i < l.length ∧ rs.length ≤ 1000 then impl_winder_wind.l0 m0 m1 m2 m3 m4 m5 hold l most budget k i (mn ((rs.length : Int) + 1) most) 0 rs own tries
    else none
def impl_winder_wind.l0 (m0 m1 m2 m3 m4 m5 hold : Int) (l : List S159) (most budget : Int) : Nat → Nat → Int → Nat → List (List S159) → List Int → Int → Option (Bool × Bool × List (List S159) × List Int × Int)
  | 0, _, _, _, _, _, _ => none
  | k + 1, i, bd, x, rs, own, tries =>
    if (x : Int) < bd then
      (if i < l.length ∧ l.length ≤ 1000 ∧ x ≤ rs.length ∧ rs.length ≤ 1000 ∧ own.length ≤ 1000 ∧ (rs.getD x []).length ≤ 1000 then
        (if x = rs.length then impl_winder_wind.st m0 m1 m2 m3 m4 m5 hold l most budget k i bd x true rs own tries
        else (impl_onReel.f k m0 m1 m2 m3 m4 m5 hold (rs.getD x [] ++ [rd_T159 l (i : Int)])).bind fun t =>
          if t = true then impl_winder_wind.st m0 m1 m2 m3 m4 m5 hold l most budget k i bd x false rs own tries
          else impl_winder_wind.l0 m0 m1 m2 m3 m4 m5 hold l most budget k i bd (x + 1) rs own tries)
      else none)
    else some (false, true, rs, own, tries)
def impl_winder_wind.st (m0 m1 m2 m3 m4 m5 hold : Int) (l : List S159) (most budget : Int) : Nat → Nat → Int → Nat → Bool → List (List S159) → List Int → Int → Option (Bool × Bool × List (List S159) × List Int × Int)
  | 0, _, _, _, _, _, _, _ => none
  | k + 1, i, bd, x, nw, rs, own, tries =>
    if wrap64 (tries + 1) > budget then some (false, false, rs, own, wrap64 (tries + 1))
    else (impl_winder_wind.f m0 m1 m2 m3 m4 m5 hold l most budget k (i + 1) ((if nw = true then rs ++ [[]] else rs).set x ((if nw = true then rs ++ [[]] else rs).getD x [] ++ [rd_T159 l (i : Int)])) (own ++ [(x : Int)]) (wrap64 (tries + 1))).bind fun r =>
      if r.1 = true ∨ r.2.1 = false then some r
      else if i ≤ r.2.2.2.1.length ∧ x < r.2.2.1.length ∧ 0 < (r.2.2.1.getD x []).length ∧ (r.2.2.1.getD x []).length ≤ 2000 then
        impl_winder_wind.l0 m0 m1 m2 m3 m4 m5 hold l most budget k i bd (x + 1) (if nw = true then (r.2.2.1.set x ((r.2.2.1.getD x []).take ((r.2.2.1.getD x []).length - 1))).take x else r.2.2.1.set x ((r.2.2.1.getD x []).take ((r.2.2.1.getD x []).length - 1))) (r.2.2.2.1.take i) r.2.2.2.2
      else none
end
theorem impl_winder_wind.mono_l (m0 m1 m2 m3 m4 m5 hold : Int) (l : List S159) (most budget : Int) : ∀ k, (∀ a b c d, LeO (impl_winder_wind.f m0 m1 m2 m3 m4 m5 hold l most budget k a b c d) (impl_winder_wind.f m0 m1 m2 m3 m4 m5 hold l most budget (k + 1) a b c d)) ∧ (∀ a b c d e f, LeO (impl_winder_wind.l0 m0 m1 m2 m3 m4 m5 hold l most budget k a b c d e f) (impl_winder_wind.l0 m0 m1 m2 m3 m4 m5 hold l most budget (k + 1) a b c d e f)) ∧ (∀ a b c n d e f, LeO (impl_winder_wind.st m0 m1 m2 m3 m4 m5 hold l most budget k a b c n d e f) (impl_winder_wind.st m0 m1 m2 m3 m4 m5 hold l most budget (k + 1) a b c n d e f))
  | 0 => ⟨fun _ _ _ _ r h => by simp [impl_winder_wind.f] at h, fun _ _ _ _ _ _ r h => by simp [impl_winder_wind.l0] at h, fun _ _ _ _ _ _ _ r h => by simp [impl_winder_wind.st] at h⟩
  | k + 1 => by
    obtain ⟨ih1, ih2, ih3⟩ := impl_winder_wind.mono_l m0 m1 m2 m3 m4 m5 hold l most budget k
    refine ⟨?_, ?_, ?_⟩
    · intro a b c d
      rw [impl_winder_wind.f, impl_winder_wind.f]
      repeat' first
        | exact ih2 _ _ _ _ _ _
        | (with_reducible exact LeO.refl _)
        | (with_reducible refine LeO.ite ?_ ?_)
    · intro a b c d e f
      rw [impl_winder_wind.l0, impl_winder_wind.l0]
      repeat' first
        | exact ih2 _ _ _ _ _ _
        | exact ih3 _ _ _ _ _ _ _
        | exact impl_onReel.mono _ _ _ _ _ _ _ _ _
        | (with_reducible exact LeO.refl _)
        | (with_reducible refine LeO.ite ?_ ?_)
        | (with_reducible refine LeO.bind ?_ (fun _ => ?_))
    · intro a b c n d e f
      rw [impl_winder_wind.st, impl_winder_wind.st]
      repeat' first
        | exact ih1 _ _ _ _
        | exact ih2 _ _ _ _ _ _
        | (with_reducible exact LeO.refl _)
        | (with_reducible refine LeO.ite ?_ ?_)
        | (with_reducible refine LeO.bind ?_ (fun _ => ?_))
theorem impl_winder_wind.infoR : (Try.prog.info? 69).map (fun i => (i.zero, i.size, i.bytes)) = some (some (.slice none 0 0), 1, 24) := by kernel_rfl
theorem impl_winder_wind.wr64 (n : Int) : IntKind.i64.wrap n = wrap64 n := by
  have e1 : (2 : Int) ^ IntKind.i64.bits = 18446744073709551616 := by decide
  have e2 : (2 : Int) ^ (IntKind.i64.bits - 1) = 9223372036854775808 := by decide
  have e3 : IntKind.i64.signed = true := rfl
  unfold IntKind.wrap wrap64
  simp only [e1, e2, e3, Bool.true_and, decide_eq_true_eq]
  split <;> omega
/-- All blocks but the state's and those of P are as they were. -/
def impl_winder_wind.Fr (P : Nat → Prop) (gw : Nat) (W W' : World) : Prop := W.heap.size ≤ W'.heap.size ∧ ∀ k, k < W.heap.size → ¬ P k → k ≠ gw → W'.heap[k]? = W.heap[k]?
theorem impl_winder_wind.Fr.refl (P : Nat → Prop) (gw : Nat) (W : World) : impl_winder_wind.Fr P gw W W := ⟨Nat.le_refl _, fun _ _ _ _ => rfl⟩
theorem impl_winder_wind.Fr.trans {P P' : Nat → Prop} {gw : Nat} {W W1 W2 : World} (h : impl_winder_wind.Fr P gw W W1) (h2 : impl_winder_wind.Fr P' gw W1 W2) (hp : ∀ k, k < W.heap.size → P' k → P k) : impl_winder_wind.Fr P gw W W2 :=
  ⟨Nat.le_trans h.1 h2.1, fun k hk a b => (h2.2 k (Nat.lt_of_lt_of_le hk h.1) (fun z => a (hp k hk z)) b).trans (h.2 k hk a b)⟩
theorem impl_winder_wind.Fr.of_below {P : Nat → Prop} {gw : Nat} {W W' : World} (h : Below W.heap.size W W') : impl_winder_wind.Fr P gw W W' := ⟨below_size h, fun k hk _ _ => h.block k hk⟩
/-- The winder: its block, its rows of strands, its numbers; the rows' blocks lie in P. -/
structure impl_winder_wind.Inv (w W : World) (gw : Nat) (m0 m1 m2 m3 m4 m5 hold : Int) (A0 : Option Addr) (c0 : Nat) (l : List S159) (most budget : Int) (P : Nat → Prop) (rs : List (List S159)) (own : List Int) (tries : Int) (vR vO : Value) : Prop where
  b : Below w.heap.size w W
  lo : w.heap.size ≤ gw
  np : ¬ P gw
  h : W.heap[gw]? = some (.cells #[.int .u8 m0, .int .u8 m1, .int .u8 m2, .int .u8 m3, .int .u8 m4, .int .u8 m5, .int .i64 hold, .slice A0 l.length c0, .int .i64 most, .int .i64 tries, .int .i64 budget, vR, vO] 166 (0, 0))
  rr : Kd.S (Kd.slice 159 k159) 69 W w.heap.size P vR rs
  ro : Kd.R (Kd.int .i64) 2 W w.heap.size P vO own
section
variable {w W W' : World} {gw : Nat} {m0 m1 m2 m3 m4 m5 hold : Int} {A0 : Option Addr} {c0 : Nat} {l : List S159} {most budget : Int} {P P' : Nat → Prop} {rs : List (List S159)} {own : List Int} {tries : Int} {vR vO : Value}
theorem impl_winder_wind.Inv.next (h : impl_winder_wind.Inv w W gw m0 m1 m2 m3 m4 m5 hold A0 c0 l most budget P rs own tries vR vO) (hb : Below W.heap.size W W') : impl_winder_wind.Inv w W' gw m0 m1 m2 m3 m4 m5 hold A0 c0 l most budget P rs own tries vR vO :=
  ⟨below_then h.b h.b.size hb, h.lo, h.np, blk_below h.h hb, Kd.S_below h.rr hb, Kd.R_below h.ro hb⟩
theorem impl_winder_wind.Inv.mono (h : impl_winder_wind.Inv w W gw m0 m1 m2 m3 m4 m5 hold A0 c0 l most budget P rs own tries vR vO) (hp : ∀ k, P k → P' k) (hn : ¬ P' gw) : impl_winder_wind.Inv w W gw m0 m1 m2 m3 m4 m5 hold A0 c0 l most budget P' rs own tries vR vO :=
  ⟨h.b, h.lo, hn, h.h, Kd.S_mono h.rr hp, Kd.R_mono h.ro hp⟩
/-- What is owned lies below the heap's end. -/
theorem impl_winder_wind.Inv.cut (h : impl_winder_wind.Inv w W gw m0 m1 m2 m3 m4 m5 hold A0 c0 l most budget P rs own tries vR vO) : impl_winder_wind.Inv w W gw m0 m1 m2 m3 m4 m5 hold A0 c0 l most budget (fun k => P k ∧ k < W.heap.size) rs own tries vR vO :=
  ⟨h.b, h.lo, fun z => h.np z.1, h.h, Kd.S_mono (Kd.S_bound h.rr) (fun k hk => ⟨hk.1, hk.2.2.1⟩), Kd.R_mono (Kd.R_bound h.ro) (fun k hk => ⟨hk.1, hk.2.2.1⟩)⟩
theorem impl_winder_wind.Inv.setT (h : impl_winder_wind.Inv w W gw m0 m1 m2 m3 m4 m5 hold A0 c0 l most budget P rs own tries vR vO) (x : Int) : impl_winder_wind.Inv w (W.setCell ⟨gw, 9, none⟩ (.int .i64 x)) gw m0 m1 m2 m3 m4 m5 hold A0 c0 l most budget P rs own x vR vO :=
  ⟨below_set h.b h.lo, h.lo, h.np, blk_put h.h 9 _ rfl, Kd.S_far (p := ⟨gw, 9, none⟩) h.rr (fun k hk e => h.np (by subst e; exact hk)) _, Kd.R_far (p := ⟨gw, 9, none⟩) h.ro (fun k hk e => h.np (by subst e; exact hk)) _⟩
/-- A store into a block that is none of its own. -/
theorem impl_winder_wind.Inv.far (h : impl_winder_wind.Inv w W gw m0 m1 m2 m3 m4 m5 hold A0 c0 l most budget P rs own tries vR vO) (p : Addr) (hp : ∀ k, P k → k ≠ p.block) (hg : gw ≠ p.block) (hb : w.heap.size ≤ p.block) (u : Value) : impl_winder_wind.Inv w (W.setCell p u) gw m0 m1 m2 m3 m4 m5 hold A0 c0 l most budget P rs own tries vR vO :=
  ⟨h.b.setCell hb _, h.lo, h.np, blk_far h.h hg _, Kd.S_far h.rr hp _, Kd.R_far h.ro hp _⟩
/-- Other rows of strands are stored. -/
theorem impl_winder_wind.Inv.setR (hb : Below w.heap.size w W) (lo : w.heap.size ≤ gw) (np : ¬ P gw) (h : W.heap[gw]? = some (.cells #[.int .u8 m0, .int .u8 m1, .int .u8 m2, .int .u8 m3, .int .u8 m4, .int .u8 m5, .int .i64 hold, .slice A0 l.length c0, .int .i64 most, .int .i64 tries, .int .i64 budget, vR, vO] 166 (0, 0))) {v2 : Value} {rs2 : List (List S159)} (rr : Kd.S (Kd.slice 159 k159) 69 W w.heap.size P v2 rs2) (ro : Kd.R (Kd.int .i64) 2 W w.heap.size P vO own) :
    impl_winder_wind.Inv w (W.setCell ⟨gw, 11, none⟩ v2) gw m0 m1 m2 m3 m4 m5 hold A0 c0 l most budget P rs2 own tries v2 vO :=
  ⟨below_set hb lo, lo, np, blk_put h 11 _ rfl, Kd.S_far (p := ⟨gw, 11, none⟩) rr (fun k hk e => np (by subst e; exact hk)) _, Kd.R_far (p := ⟨gw, 11, none⟩) ro (fun k hk e => np (by subst e; exact hk)) _⟩
/-- Other numbers are stored. -/
theorem impl_winder_wind.Inv.setO (hb : Below w.heap.size w W) (lo : w.heap.size ≤ gw) (np : ¬ P gw) (h : W.heap[gw]? = some (.cells #[.int .u8 m0, .int .u8 m1, .int .u8 m2, .int .u8 m3, .int .u8 m4, .int .u8 m5, .int .i64 hold, .slice A0 l.length c0, .int .i64 most, .int .i64 tries, .int .i64 budget, vR, vO] 166 (0, 0))) {v2 : Value} {own2 : List Int} (rr : Kd.S (Kd.slice 159 k159) 69 W w.heap.size P vR rs) (ro : Kd.R (Kd.int .i64) 2 W w.heap.size P v2 own2) :
    impl_winder_wind.Inv w (W.setCell ⟨gw, 12, none⟩ v2) gw m0 m1 m2 m3 m4 m5 hold A0 c0 l most budget P rs own2 tries vR v2 :=
  ⟨below_set hb lo, lo, np, blk_put h 12 _ rfl, Kd.S_far (p := ⟨gw, 12, none⟩) rr (fun k hk e => np (by subst e; exact hk)) _, Kd.R_far (p := ⟨gw, 12, none⟩) ro (fun k hk e => np (by subst e; exact hk)) _⟩
/-- A row of strands, taken out; and another one put into its place. -/
theorem impl_winder_wind.Inv.elem (h : impl_winder_wind.Inv w W gw m0 m1 m2 m3 m4 m5 hold A0 c0 l most budget P rs own tries vR vO) (x : Nat) (hx : x < rs.length) :
    ∃ (g cap : Nat) (oki : Nat → Prop) (A : Option Addr) (cc : Nat), vR = .slice (some ⟨g, 0, none⟩) rs.length cap ∧ W.cell? ⟨g, x, none⟩ = some (.slice A (rs.getD x []).length cc) ∧ W.frozen? ⟨g, x, none⟩ = false ∧ P g ∧ g < W.heap.size ∧ Kd.R k159 159 W w.heap.size oki (.slice A (rs.getD x []).length cc) (rs.getD x []) ∧ (∀ k, oki k → P k ∧ k ≠ g ∧ ∃ cells, W.heap[k]? = some (.cells cells 159 (0, 0))) ∧
      ∀ (w1 : World) (v1 : Value) (row : List S159), W.heap.size ≤ w1.heap.size → Below w.heap.size w w1 → (∀ k, k < W.heap.size → ¬ oki k → w1.heap[k]? = W.heap[k]?) → (∀ k, W.heap.size ≤ k → P k) → Kd.R k159 159 w1 w.heap.size (fun k => oki k ∨ W.heap.size ≤ k) v1 row →
        impl_winder_wind.Inv w (w1.setCell ⟨g, x, none⟩ v1) gw m0 m1 m2 m3 m4 m5 hold A0 c0 l most budget P (rs.set x row) own tries vR vO ∧ impl_winder_wind.Fr P gw W (w1.setCell ⟨g, x, none⟩ v1) := by
  obtain ⟨g, cap, rfl, hg0, hg1, cells, hgc⟩ := Kd.S_form h.rr (by omega)
  have hPg : P g := (Kd.S_R h.rr).1 g (by simp [Value.ownBlock])
  obtain ⟨oki, c, hcl, hM, hcc, hfr, hoki, hH⟩ := Kd.S_elem h.rr [] (x : Int) (by omega) (by omega)
  obtain ⟨v, rfl, hv⟩ := hM
  obtain ⟨A, cc, ev⟩ := Kd.R_slice hv
  rw [Int.toNat_natCast] at hv ev hcc hfr
  have e1 : (Kd.slice 159 k159).sz = 1 := rfl
  have hc0 := hcc 0 v rfl
  have hf0 := hfr 0
  rw [e1, Nat.mul_one, Nat.add_zero] at hc0 hf0
  subst ev
  have hvt : Kd.R k159 159 W w.heap.size (fun k => oki k ∧ ∃ cells, W.heap[k]? = some (.cells cells 159 (0, 0))) (.slice A (rs.getD x []).length cc) (rs.getD x []) :=
    Kd.R_mono (Kd.R_bound hv) (fun k hk => ⟨hk.1, by
      obtain ⟨q, hq, cells, hc⟩ := hk.2.2.2
      have hq' : q ∈ [159] := hq
      rw [List.mem_singleton] at hq'
      subst hq'
      exact ⟨cells, hc⟩⟩)
  refine ⟨g, cap, fun k => oki k ∧ ∃ cells, W.heap[k]? = some (.cells cells 159 (0, 0)), A, cc, rfl, hc0, hf0, hPg, hg1, hvt, fun k hk => ⟨(hoki k hk.1).1, (hoki k hk.1).2, hk.2⟩, ?_⟩
  intro w1 v1 row hsz hb hsame hfresh hr
  have hgw : g ≠ gw := fun e => h.np (by rw [← e]; exact hPg)
  have hgwi := fun (z : oki gw ∧ ∃ cells, W.heap[gw]? = some (.cells cells 159 (0, 0))) => h.np (hoki gw z.1).1
  have hgi := fun (z : oki g ∧ ∃ cells, W.heap[g]? = some (.cells cells 159 (0, 0))) => (hoki g z.1).2 rfl
  have hgw1 := (hsame gw (blk_lt h.h) hgwi).trans h.h
  have hgc1 := (hsame g hg1 hgi).trans hgc
  -- the row without its element, at w1
  have hH1 : Kd.H (Kd.slice 159 k159) 69 w1 w.heap.size P (.slice (some ⟨g, 0, none⟩) rs.length cap) rs (x : Int) (fun k => oki k ∨ P k ∧ W.heap.size ≤ k) [.slice A (rs.getD x []).length cc] :=
    Kd.H_step (Kd.H_widen hH) (fun k _ hn hlt => hsame k hlt (fun z => hn (.inl z.1)))
  have hS := (Kd.S_seg (okg := fun _ => False) (okp := fun k => (oki k ∧ ∃ cells, W.heap[k]? = some (.cells cells 159 (0, 0))) ∨ W.heap.size ≤ k) (x' := row) (seg := [v1]) (j := 0) (Kd.H_mono hH1 (fun k hk => ⟨hk, fun z => z⟩)) (by omega) (by omega) (by show 0 + 1 ≤ 1; omega) (by
    show (Kd.slice 159 k159).M w1 w.heap.size _ row [v1]
    exact ⟨v1, rfl, hr⟩) (fun k hk => hk.elim (fun z => .inl (.inl z.1)) (fun z => .inl (.inr ⟨hfresh k z, z⟩))) (fun k hk => hk.elim)).1
  rw [Int.toNat_natCast, e1, Nat.mul_one, Nat.add_zero] at hS
  have hro1 : Kd.R (Kd.int .i64) 2 w1 w.heap.size P vO own := by
    refine Kd.R_mono (Kd.R_step (Kd.R_bound h.ro) (fun k hk hlt => hsame k hlt (fun z => ?_))) (fun _ hk => hk.1)
    obtain ⟨q, hq, cells, hc⟩ := hk.2.2.2
    have hq' : q ∈ [2] := hq
    rw [List.mem_singleton] at hq'
    subst hq'
    obtain ⟨_, cells2, hc2⟩ := z
    rw [hc] at hc2
    injection hc2 with e
    injection e with _ e2
    exact absurd e2 (by decide)
  refine ⟨⟨below_set hb hg0, h.lo, h.np, blk_far hgw1 (p := ⟨g, x, none⟩) (fun e => hgw e.symm) _, hS, ?_⟩, ?_⟩
  · exact Kd.R_mono (Kd.R_far (p := ⟨g, x, none⟩) (Kd.R_types hro1 hgc1 (by decide)) (fun _ hk => hk.2) _) (fun _ hk => hk.1)
  · refine ⟨by simpa using hsz, fun k hk hnp hkg => (Below.heap_setCell w1 ⟨g, x, none⟩ v1 k (fun e => hnp (by rw [show k = g from e]; exact hPg))).trans (hsame k hk (fun z => hnp (hoki k z.1).1))⟩
theorem impl_winder_wind.Fr.setw (h : impl_winder_wind.Fr P gw W W') (o : Nat) (u : Value) : impl_winder_wind.Fr P gw W (W'.setCell ⟨gw, o, none⟩ u) :=
  ⟨by simpa using h.1, fun k hk a b => (Below.heap_setCell W' ⟨gw, o, none⟩ u k b).trans (h.2 k hk a b)⟩
/-- What a block of another type holds is not the numbers. -/
theorem impl_winder_wind.Inv.numbers (h : impl_winder_wind.Inv w W gw m0 m1 m2 m3 m4 m5 hold A0 c0 l most budget P rs own tries vR vO) {w1 : World} {g t : Nat} {cells : Array Value} (hg : W.heap[g]? = some (.cells cells t (0, 0))) (ht : 2 ≠ t) (hs : ∀ k, k < W.heap.size → k ≠ g → w1.heap[k]? = W.heap[k]?) : Kd.R (Kd.int .i64) 2 w1 w.heap.size P vO own := by
  refine Kd.R_mono (Kd.R_step (Kd.R_bound h.ro) (fun k hk hlt => hs k hlt (fun e => ?_))) (fun _ hk => hk.1)
  subst e
  obtain ⟨q, hq, cells2, hc⟩ := hk.2.2.2
  have hq' : q ∈ [2] := hq
  rw [List.mem_singleton] at hq'
  subst hq'
  rw [hc] at hg
  injection hg with e
  injection e with _ e2
  exact ht e2
/-- The rows of strands have grown by one row, and are stored. -/
theorem impl_winder_wind.Inv.grow (h : impl_winder_wind.Inv w W gw m0 m1 m2 m3 m4 m5 hold A0 c0 l most budget P rs own tries vR vO) {w1 : World} {v2 : Value} {rs2 : List (List S159)} (hb : Below w.heap.size w w1) (hg : W.grownBy w1 vR.ownBlock) (ho : Kd.S (Kd.slice 159 k159) 69 w1 w.heap.size P v2 rs2) :
    impl_winder_wind.Inv w (w1.setCell ⟨gw, 11, none⟩ v2) gw m0 m1 m2 m3 m4 m5 hold A0 c0 l most budget P rs2 own tries v2 vO ∧ impl_winder_wind.Fr P gw W (w1.setCell ⟨gw, 11, none⟩ v2) ∧ w1.heap[gw]? = W.heap[gw]? := by
  have hn : ∀ k, vR.ownBlock = some k → P k := (Kd.S_R h.rr).1
  have hgw : w1.heap[gw]? = W.heap[gw]? := hg.block gw (blk_lt h.h) (fun e => h.np (hn gw e.symm))
  have hro : Kd.R (Kd.int .i64) 2 w1 w.heap.size P vO own := by
    refine Kd.R_mono (Kd.R_step (Kd.R_bound h.ro) (fun k hk hlt => hg.block k hlt (fun e => ?_))) (fun _ hk => hk.1)
    obtain ⟨q, hq, cells2, hc⟩ := hk.2.2.2
    have hq' : q ∈ [2] := hq
    rw [List.mem_singleton] at hq'
    subst hq'
    exact Kd.R_ne (Kd.S_R h.rr) hc (by decide) e
  refine ⟨impl_winder_wind.Inv.setR hb h.lo h.np (hgw.trans h.h) ho hro, ⟨by simpa using hg.size, fun k hk a b => (Below.heap_setCell w1 ⟨gw, 11, none⟩ v2 k b).trans (hg.block k hk (fun e => a (hn k e.symm)))⟩, hgw⟩
/-- The numbers have grown, and are stored. -/
theorem impl_winder_wind.Inv.growO (h : impl_winder_wind.Inv w W gw m0 m1 m2 m3 m4 m5 hold A0 c0 l most budget P rs own tries vR vO) {w1 : World} {v2 : Value} {own2 : List Int} (hb : Below w.heap.size w w1) (hg : W.grownBy w1 vO.ownBlock) (ho : Kd.R (Kd.int .i64) 2 w1 w.heap.size P v2 own2) :
    impl_winder_wind.Inv w (w1.setCell ⟨gw, 12, none⟩ v2) gw m0 m1 m2 m3 m4 m5 hold A0 c0 l most budget P rs own2 tries vR v2 ∧ impl_winder_wind.Fr P gw W (w1.setCell ⟨gw, 12, none⟩ v2) ∧ w1.heap[gw]? = W.heap[gw]? := by
  have hn : ∀ k, vO.ownBlock = some k → P k := h.ro.1
  have hgw : w1.heap[gw]? = W.heap[gw]? := hg.block gw (blk_lt h.h) (fun e => h.np (hn gw e.symm))
  have hrr : Kd.S (Kd.slice 159 k159) 69 w1 w.heap.size P vR rs := by
    refine Kd.S_mono (Kd.S_step (Kd.S_bound h.rr) (fun k hk hlt => hg.block k hlt (fun e => ?_))) (fun _ hk => hk.1)
    obtain ⟨q, hq, cells2, hc⟩ := hk.2.2.2
    have hne : 2 ≠ q := by
      have hq' : q ∈ [69, 159] := hq
      rcases List.mem_cons.1 hq' with z | z
      · subst z; decide
      · rw [List.mem_singleton.1 z]; decide
    exact Kd.R_ne h.ro hc hne e
  refine ⟨impl_winder_wind.Inv.setO hb h.lo h.np (hgw.trans h.h) hrr ho, ⟨by simpa using hg.size, fun k hk a b => (Below.heap_setCell w1 ⟨gw, 12, none⟩ v2 k b).trans (hg.block k hk (fun e => a (hn k e.symm)))⟩, hgw⟩
/-- Fewer rows of strands are stored. -/
theorem impl_winder_wind.Inv.cutR {A : Option Addr} {c m : Nat} (h : impl_winder_wind.Inv w W gw m0 m1 m2 m3 m4 m5 hold A0 c0 l most budget P rs own tries (.slice A rs.length c) vO) (hm : m ≤ rs.length) :
    impl_winder_wind.Inv w (W.setCell ⟨gw, 11, none⟩ (.slice A m c)) gw m0 m1 m2 m3 m4 m5 hold A0 c0 l most budget P (rs.take m) own tries (.slice A m c) vO :=
  impl_winder_wind.Inv.setR h.b h.lo h.np h.h (Kd.S_take h.rr hm) h.ro
/-- Fewer numbers are stored. -/
theorem impl_winder_wind.Inv.cutO {A : Option Addr} {c m : Nat} (h : impl_winder_wind.Inv w W gw m0 m1 m2 m3 m4 m5 hold A0 c0 l most budget P rs own tries vR (.slice A own.length c)) (hm : m ≤ own.length) :
    impl_winder_wind.Inv w (W.setCell ⟨gw, 12, none⟩ (.slice A m c)) gw m0 m1 m2 m3 m4 m5 hold A0 c0 l most budget P rs (own.take m) tries vR (.slice A m c) :=
  impl_winder_wind.Inv.setO h.b h.lo h.np h.h h.rr (Kd.R_take h.ro hm)
theorem impl_winder_wind.cell_same {w1 w2 : World} {g x : Nat} (h : w1.heap[g]? = w2.heap[g]?) : w1.cell? ⟨g, x, none⟩ = w2.cell? ⟨g, x, none⟩ := by
  simp only [World.cell?, h]
theorem impl_winder_wind.frozen_same {w1 w2 : World} {g x : Nat} (h : w1.heap[g]? = w2.heap[g]?) : w1.frozen? ⟨g, x, none⟩ = w2.frozen? ⟨g, x, none⟩ := by
  simp only [World.frozen?, h]
end
theorem impl_winder_wind.app {ops : Array Oper} {o : Oper} {a : Act} {Q : Exit → Act → World → Prop} {Kc : Act → World → Prop} {w0 W : World} (hw : Region.wanted o (yielded ops a.tmps) = true) (s x : Operand) (ho : o.op = .call { callee := .builtin .append, args := #[s, x], argTypes := #[69, 69] }) (v : Value) (xs ys : List S159) (A : Option Addr) (m c : Nat) (ok : Nat → Prop) (hs : a.eval s = v) (hx : a.eval x = .slice A m c)
    (HO : Kd.R k159 159 W w0.heap.size ok v xs) (HR : Kd.C k159 W A m ys) (hf : ∀ k, W.heap.size ≤ k → ok k) (HB : Below w0.heap.size w0 W) (hl : xs.length + m ≤ 1048600)
    (h : ∀ v1 w1, Kd.R k159 159 w1 w0.heap.size ok v1 (xs ++ ys) → Below w0.heap.size w0 w1 → W.grownBy w1 v.ownBlock → Kc (a.put o.dst v1) w1) :
    if Region.wanted o (yielded ops a.tmps) = true then Oper.wp Try.prog o a W Kc Q else Kc (a.put o.dst undef) W := by
  refine Kd.R_append_rows_step k159 (w0 := w0) w0.heap.size hw s x 69 159 (.agg #[(.int .i16 0), (.int .u8 0)]) 4 ho Try.underlying69 spec_l04Try.infoS rfl (by decide) (by omega) v xs ys A m c ok (fun _ => False) hs hx HO HR (fun _ _ h => h) (fun _ h => h.elim) hf HB HB.size (by omega) ?_
  intro v1 w1 ho hb hg hat
  exact h v1 w1 ho hb hg
set_option maxHeartbeats 8000000 in
set_option maxRecDepth 100000 in
theorem impl_winder_wind.calls (w : World) (gw : Nat) (m0 m1 m2 m3 m4 m5 hold : Int) (A0 : Option Addr) (c0 : Nat) (l : List S159) (most budget : Int) (hC : Kd.C k159 w A0 l.length l) (hc0 : l.length ≤ c0) : ∀ (k i : Nat) (rs : List (List S159)) (own : List Int) (tries : Int) (P : Nat → Prop) (vR vO : Value) (W : World) (r1 r2 : Bool) (r3 : List (List S159)) (r4 : List Int) (r5 : Int), impl_winder_wind.Inv w W gw m0 m1 m2 m3 m4 m5 hold A0 c0 l most budget P rs own tries vR vO → impl_winder_wind.f m0 m1 m2 m3 m4 m5 hold l most budget k i rs own tries = some (r1, r2, r3, r4, r5) →
    Calls Try.prog 123 #[.pointer (some ⟨gw, 0, none⟩), .int .i64 (i : Int)] W fun e w' => e = .returned (.tuple #[.bool r1, .bool r2]) ∧ (∃ vR2 vO2, impl_winder_wind.Inv w w' gw m0 m1 m2 m3 m4 m5 hold A0 c0 l most budget (fun k => P k ∧ k < W.heap.size ∨ W.heap.size ≤ k) r3 r4 r5 vR2 vO2) ∧ impl_winder_wind.Fr (fun k => P k ∧ k < W.heap.size) gw W w' := by
  intro k
  have hu1 := Try.underlying166
  have hu2 := Try.underlying159
  have hu3 := Try.underlying67
  have HC := Aside0.mk hC
  have HC0 := Aside0.mk hc0
  clear hC hc0
  induction k using Nat.strongRecOn with
  | _ k IH =>
  intro i rs own tries P vR vO W r1 r2 r3 r4 r5 hI h
  cases k with
  | zero => simp [impl_winder_wind.f] at h
  | succ k =>
    have IHa := Aside0.mk IH
    clear IH
    rw [impl_winder_wind.f] at h
    have hq7 : W.cell? ⟨gw, 7, none⟩ = some (.slice A0 l.length c0) := (blk_cell hI.h 7).trans rfl
    have HI := Aside0.mk hI.cut
    have NPw := Aside0.mk hI.cut.np
    have GW := Aside0.mk (blk_lt hI.h)
    clear hI
    by_cases h1 : i = l.length
    · rw [if_pos h1] at h
      have e := Option.some.inj h
      simp only [Prod.mk.injEq] at e
      obtain ⟨rfl, rfl, rfl, rfl, rfl⟩ := e
      have e1 : ((i : Int) == (l.length : Int)) = true := beq_iff_eq.mpr (by omega)
      have HH1 := Aside0.mk h1
      clear h h1
      go_enter Try.func123, Try.ntmps123
      go_wp2
      go_ret2
      exact ⟨rfl, ⟨_, _, HI.out.mono (fun k hk => .inl hk) (fun z => z.elim HI.out.np (fun z => by have := GW.out; omega))⟩, impl_winder_wind.Fr.refl _ _ _⟩
    · rw [if_neg h1] at h
      have e1 : ((i : Int) == (l.length : Int)) = false := beq_eq_false_iff_ne.mpr (by omega)
      by_cases h2 : i < l.length ∧ rs.length ≤ 1000
      · rw [if_pos h2] at h
        have HL := Aside0.mk h
        have H2 := Aside0.mk h2.2
        obtain ⟨adl, eal, hs0, hs1⟩ := at_T159 (Kd.C_below HC.out HI.out.b) (i : Int) (by omega) (by omega)
        subst eal
        rw [Int.toNat_natCast] at hs0 hs1
        have qi0 : (0 : Int) ≤ (i : Int) := by omega
        have qi1 : (i : Int) < (l.length : Int) := by omega
        have qi2 : i < l.length := h2.1
        clear h h1 h2
        go_enter Try.func123, Try.ntmps123
        go_upto_region 4 with (first | ((with_reducible refine gate_dst (N := 6) rfl ?_); refine box_event ?hg (N := 6) ?hd (cs := #[.int .i16 0, .int .u8 0]) (t := 159) ?hr ?_; (case hd => rfl); (case hg => rfl); (case hr => first | (go_simp; done) | (go_simp; rfl)); intro gb hgb w1 hb1 hbb; have BB1 := Aside0.mk hb1; have HB1 := Aside0.mk hbb; have GB := Aside0.mk hgb; clear hb1 hbb hgb; have hbc0 : w1.cell? ⟨gb, 0, none⟩ = some (.int .i16 0) := (blk_cell BB1.out 0).trans rfl; have hbc1 : w1.cell? ⟨gb, 1, none⟩ = some (.int .u8 0) := (blk_cell BB1.out 1).trans rfl; have hbf0 := blk_frozen BB1.out 0; have hbf1 := blk_frozen BB1.out 1))
        generalize hsy : rd_T159 l (i : Int) = sy at *
        have BB3 := Aside0.mk (blk_put (cs' := #[.int .i16 sy.f0, .int .u8 sy.f1]) (blk_put (cs' := #[.int .i16 sy.f0, .int .u8 0]) BB1.out 0 (.int .i16 sy.f0) rfl) 1 (.int .u8 sy.f1) rfl)
        have hgg : gw ≠ gb := by have := GW.out; have := GB.out; omega
        have HI3 := Aside0.mk (((HI.out.next HB1.out).far ⟨gb, 0, none⟩ (fun k hk => by have := hk.2; have := GB.out; show k ≠ gb; omega) hgg (by have := HI.out.b.size; have := GB.out; show w.heap.size ≤ gb; omega) (.int .i16 sy.f0)).far ⟨gb, 1, none⟩ (fun k hk => by have := hk.2; have := GB.out; show k ≠ gb; omega) hgg (by have := HI.out.b.size; have := GB.out; show w.heap.size ≤ gb; omega) (.int .u8 sy.f1))
        have FR3 : Aside0 (impl_winder_wind.Fr (fun k => P k ∧ k < W.heap.size) gw W ((w1.setCell ⟨gb, 0, none⟩ (.int .i16 sy.f0)).setCell ⟨gb, 1, none⟩ (.int .u8 sy.f1))) := ⟨⟨by simpa using below_size HB1.out, fun k hk _ _ => ((Below.heap_setCell _ ⟨gb, 1, none⟩ _ k (by have := GB.out; show k ≠ gb; omega)).trans (Below.heap_setCell _ ⟨gb, 0, none⟩ _ k (by have := GB.out; show k ≠ gb; omega))).trans (HB1.out.block k hk)⟩⟩
        clear hbc0 hbc1 hbf0 hbf1 BB1 HB1 HI hq7 hs0 hs1
        generalize (w1.setCell ⟨gb, 0, none⟩ (.int .i16 sy.f0)).setCell ⟨gb, 1, none⟩ (.int .u8 sy.f1) = W3 at *
        obtain ⟨P1, hP1⟩ : ∃ P1 : Nat → Prop, P1 = fun k => (P k ∧ k < W.heap.size) ∨ W3.heap.size ≤ k := ⟨_, rfl⟩
        have PF : Aside0 (∀ k, W3.heap.size ≤ k → P1 k) := ⟨fun k hk => by rw [hP1]; exact .inr hk⟩
        have PB : Aside0 (¬ P1 gb) := ⟨fun z => by rw [hP1] at z; have := blk_lt BB3.out; have := GB.out; rcases z with z | z <;> omega⟩
        have PE : Aside0 (∀ k, P1 k → P k ∧ k < W.heap.size ∨ W.heap.size ≤ k) := ⟨fun k hk => by rw [hP1] at hk; have := FR3.out.1; exact hk.imp id (fun z => by omega)⟩
        have PL : Aside0 (∀ k, k < W.heap.size → P1 k → P k ∧ k < W.heap.size) := ⟨fun k hlt hk => by rw [hP1] at hk; have := FR3.out.1; rcases hk with z | z; exact z; omega⟩
        have HI4 : Aside0 (impl_winder_wind.Inv w W3 gw m0 m1 m2 m3 m4 m5 hold (some adl) c0 l most budget P1 rs own tries vR vO) := ⟨HI3.out.mono (fun k hk => by rw [hP1]; exact .inl hk) (fun z => by rw [hP1] at z; have := blk_lt HI3.out.h; rcases z with z | z; exact HI3.out.np z; omega)⟩
        clear HI3 hP1
        obtain ⟨AR, cR, eR⟩ := Kd.S_slice HI4.out.rr
        subst eR
        have hq11 : W3.cell? ⟨gw, 11, none⟩ = some (.slice AR rs.length cR) := (blk_cell HI4.out.h 11).trans rfl
        have hq8 : W3.cell? ⟨gw, 8, none⟩ = some (.int .i64 most) := (blk_cell HI4.out.h 8).trans rfl
        have hw1 : wrap64 ((rs.length : Int) + 1) = (rs.length : Int) + 1 := by have := H2.out; unfold wrap64; omega
        have hwI : IntKind.i64.wrap ((rs.length : Int) + 1) = (rs.length : Int) + 1 := (impl_winder_wind.wr64 _).trans hw1
        obtain ⟨bd, hbd⟩ : ∃ bd, mn ((rs.length : Int) + 1) most = bd := ⟨_, rfl⟩
        have hL := HL.out
        rw [hbd] at hL
        have hbd2 : (if most < (rs.length : Int) + 1 then most else (rs.length : Int) + 1) = bd := hbd
        have HL2 := Aside0.mk hL
        clear HL hL
        go_cut [35, 36] (fun v35 v36 wc => v35 = .int .i64 bd ∧ v36 = .int .i64 0 ∧ Aside0 (wc = W3.drewN 1))
        case first  =>
          refine wp_region_still_lit (by kernel_rfl) (by kernel_rfl) ?_
          repeat still_step
          all_goals
            refine wpStill_nil ?_
            change Exit.then _ _ _ _ (W3.drewN 1)
            (try go_wp2)
            go_meet
            case rel => exact ⟨(by first | (congr 1; done) | (congr 1; rw [← hbd2]; split <;> omega)), rfl, ⟨rfl⟩⟩
        case rest  =>
        obtain ⟨rfl, rfl, HWC⟩ := hcut
        have ewc := HWC.out
        subst ewc
        have HI5 := Aside0.mk (HI4.out.next (pw_below_drewN (Below.refl _ _) 1))
        have FR5 := Aside0.mk (impl_winder_wind.Fr.of_below (P := P1) (gw := gw) (pw_below_drewN (Below.refl W3.heap.size W3) 1))
        clear hq11 hq8 HI4 HWC
        generalize W3.drewN 1 = W5 at *
        go_wp2
        clear hw1 hwI hbd hbd2
        go_loopg [36, 7, 8, 9, 10] k (fun gq v36 _ _ _ _ W6 => ∃ (x : Nat) (rs1 : List (List S159)) (own1 : List Int) (tries1 : Int) (vR1 vO1 : Value), v36 = .int .i64 (x : Int) ∧ Aside0 (impl_winder_wind.l0 m0 m1 m2 m3 m4 m5 hold l most budget gq i bd x rs1 own1 tries1 = some (r1, r2, r3, r4, r5)) ∧ Aside0 (gq ≤ k) ∧ Aside0 (impl_winder_wind.Inv w W6 gw m0 m1 m2 m3 m4 m5 hold (some adl) c0 l most budget P1 rs1 own1 tries1 vR1 vO1) ∧ Aside0 (impl_winder_wind.Fr P1 gw W3 W6))
        case atStart => exact ⟨0, rs, own, tries, _, _, rfl, HL2, ⟨Nat.le_refl _⟩, HI5, FR5⟩
        case round =>
          clear HL2 HI5 FR5
          obtain ⟨x, rs1, own1, tries1, vR1, vO1, rfl, HL, HK, HI, FR⟩ := hrel
          cases gk with
          | zero => exact absurd HL.out (by simp [impl_winder_wind.l0])
          | succ g =>
            have H := HL.out
            rw [impl_winder_wind.l0] at H
            clear HL
            by_cases hx : (x : Int) < bd
            · rw [if_pos hx] at H
              have d1 : decide ((x : Int) < bd) = true := decide_eq_true hx
              by_cases hg : i < l.length ∧ l.length ≤ 1000 ∧ x ≤ rs1.length ∧ rs1.length ≤ 1000 ∧ own1.length ≤ 1000 ∧ (rs1.getD x []).length ≤ 1000
              · rw [if_pos hg] at H
                obtain ⟨_, g2, g3, g4, g5, g6⟩ := hg
                have HX := Aside0.mk H
                have G5 := Aside0.mk g5
                clear H
                have BB6 := Aside0.mk ((FR.out.2 gb (blk_lt BB3.out) PB.out hgg.symm).trans BB3.out)
                obtain ⟨nw, sk, hnw, hsk1, hsk2, hon⟩ : ∃ (nw sk : Bool), nw = decide (x = rs1.length) ∧ (sk = true → impl_winder_wind.l0 m0 m1 m2 m3 m4 m5 hold l most budget g i bd (x + 1) rs1 own1 tries1 = some (r1, r2, r3, r4, r5)) ∧ (sk = false → impl_winder_wind.st m0 m1 m2 m3 m4 m5 hold l most budget g i bd x nw rs1 own1 tries1 = some (r1, r2, r3, r4, r5)) ∧ ((nw = true ∧ sk = false) ∨ (nw = false ∧ impl_onReel.f g m0 m1 m2 m3 m4 m5 hold (rs1.getD x [] ++ [sy]) = some (!sk))) := by
                  have H := HX.out
                  by_cases hxe : x = rs1.length
                  · rw [if_pos hxe] at H
                    exact ⟨true, false, by simp [hxe], (fun z => by cases z), fun _ => H, Or.inl ⟨rfl, rfl⟩⟩
                  · rw [if_neg hxe, hsy] at H
                    obtain ⟨t, ht, H⟩ := Option.bind_eq_some_iff.mp H
                    cases t with
                    | true => rw [if_pos rfl] at H; exact ⟨false, false, by simp [hxe], (fun z => by cases z), fun _ => H, Or.inr ⟨rfl, ht⟩⟩
                    | false => rw [if_neg (by decide)] at H; exact ⟨false, true, by simp [hxe], fun _ => H, (fun z => by cases z), Or.inr ⟨rfl, ht⟩⟩
                clear HX
                have HS1 := Aside0.mk hsk1
                have HS2 := Aside0.mk hsk2
                have HNW := Aside0.mk hnw
                obtain ⟨AR1, cR1, eR1⟩ := Kd.S_slice HI.out.rr
                subst eR1
                have hq11 : wr.cell? ⟨gw, 11, none⟩ = some (.slice AR1 rs1.length cR1) := (blk_cell HI.out.h 11).trans rfl
                have enw : ((x : Int) == (rs1.length : Int)) = nw := by rw [hnw, Bool.eq_iff_iff, beq_iff_eq, decide_eq_true_eq]; omega
                clear hsk1 hsk2 hnw
                go_upto_region 8 with (fail)
                go_cut [36, 7, 8, 9, 10, 70] (fun v36 v7 v8 _ _ v70 wc => v36 = .int .i64 (x : Int) ∧ v7 = .int .i64 (x : Int) ∧ v8 = .bool nw ∧ v70 = .bool sk ∧ Aside0 (Below wr.heap.size wr wc))
                case first  =>
                  rcases hon with ⟨rfl, rfl⟩ | ⟨rfl, hon⟩
                  · clear HS1 HS2 HNW
                    go_quiet (fail)
                    go_wp2
                    go_meet
                    case rel => exact ⟨rfl, rfl, rfl, rfl, ⟨pw_below_drewN (Below.refl _ _) _⟩⟩
                  · have hxl : x < rs1.length := by have := HNW.out; simp at this; omega
                    obtain ⟨gr, capr, oki, Ax, cx, evr, hqx, hfx, hPr, hgr, hRx, hoki, _⟩ := HI.out.elem x hxl
                    injection evr with ea _ ec
                    subst ea
                    subst ec
                    have HRx := Aside0.mk (Kd.R_reads' hRx).2.2
                    have HRc := Aside0.mk (Kd.R_reads' hRx).2.1
                    obtain ⟨row, hrow⟩ : ∃ r_, rs1.getD x [] = r_ := ⟨_, rfl⟩
                    rw [hrow] at HRx HRc hqx hon g6
                    have HRow := Aside0.mk g6
                    obtain ⟨row8, hN8⟩ : ∃ r_, row ++ [sy] = r_ := ⟨_, rfl⟩
                    rw [hN8] at hon
                    have HN8 := Aside0.mk hN8
                    have HOn := Aside0.mk hon
                    have HRf : Aside0 (impl_Strand_174.f row = some row) := ⟨if_pos (by omega)⟩
                    have hm0 : wr.cell? ⟨gw, 0, none⟩ = some (.int .u8 m0) := (blk_cell HI.out.h 0).trans rfl
                    have hm1 : wr.cell? ⟨gw, 1, none⟩ = some (.int .u8 m1) := (blk_cell HI.out.h 1).trans rfl
                    have hm2 : wr.cell? ⟨gw, 2, none⟩ = some (.int .u8 m2) := (blk_cell HI.out.h 2).trans rfl
                    have hm3 : wr.cell? ⟨gw, 3, none⟩ = some (.int .u8 m3) := (blk_cell HI.out.h 3).trans rfl
                    have hm4 : wr.cell? ⟨gw, 4, none⟩ = some (.int .u8 m4) := (blk_cell HI.out.h 4).trans rfl
                    have hm5 : wr.cell? ⟨gw, 5, none⟩ = some (.int .u8 m5) := (blk_cell HI.out.h 5).trans rfl
                    have hq6 : wr.cell? ⟨gw, 6, none⟩ = some (.int .i64 hold) := (blk_cell HI.out.h 6).trans rfl
                    have hb0 : wr.cell? ⟨gb, 0, none⟩ = some (.int .i16 sy.f0) := (blk_cell BB6.out 0).trans rfl
                    have hb1 : wr.cell? ⟨gb, 1, none⟩ = some (.int .u8 sy.f1) := (blk_cell BB6.out 1).trans rfl
                    have qx0 : (0 : Int) ≤ (x : Int) := by omega
                    have qx1 : (x : Int) < (rs1.length : Int) := by omega
                    have qx3 : ¬ rs1 = [] := fun e => by subst e; simp at hxl
                    clear hfx hPr hgr hRx hoki hN8 hon hrow g6
                    go_region_held3 (fun w' => w'.cell? ⟨gw, 0, none⟩ = some (.int .u8 m0) ∧ w'.cell? ⟨gw, 1, none⟩ = some (.int .u8 m1) ∧ w'.cell? ⟨gw, 2, none⟩ = some (.int .u8 m2) ∧ w'.cell? ⟨gw, 3, none⟩ = some (.int .u8 m3) ∧ w'.cell? ⟨gw, 4, none⟩ = some (.int .u8 m4) ∧ w'.cell? ⟨gw, 5, none⟩ = some (.int .u8 m5) ∧ w'.cell? ⟨gw, 6, none⟩ = some (.int .i64 hold) ∧ w'.cell? ⟨gw, 11, none⟩ = some (.slice (some ⟨gr, 0, none⟩) rs1.length cR1) ∧ w'.cell? ⟨gr, x, none⟩ = some (.slice Ax row.length cx) ∧ w'.cell? ⟨gb, 0, none⟩ = some (.int .i16 sy.f0) ∧ w'.cell? ⟨gb, 1, none⟩ = some (.int .u8 sy.f1)) ((repeat' (with_reducible refine And.intro ?_ ?_)) <;> ((repeat (first | (with_reducible refine spec_l04Try.keepD ?_) | (with_reducible refine spec_l04Try.keepA ?_) | (with_reducible refine spec_l04Try.keepNN ?_))); (first | (with_reducible exact hm0) | (with_reducible exact hm1) | (with_reducible exact hm2) | (with_reducible exact hm3) | (with_reducible exact hm4) | (with_reducible exact hm5) | (with_reducible exact hq6) | (with_reducible exact hq11) | (with_reducible exact hqx) | (with_reducible exact hb0) | (with_reducible exact hb1) | (with_reducible exact spec_l04Try.keepB HB68.out hm0) | (with_reducible exact spec_l04Try.keepB HB68.out hm1) | (with_reducible exact spec_l04Try.keepB HB68.out hm2) | (with_reducible exact spec_l04Try.keepB HB68.out hm3) | (with_reducible exact spec_l04Try.keepB HB68.out hm4) | (with_reducible exact spec_l04Try.keepB HB68.out hm5) | (with_reducible exact spec_l04Try.keepB HB68.out hq6) | (with_reducible exact spec_l04Try.keepB HB68.out hq11) | (with_reducible exact spec_l04Try.keepB HB68.out hqx) | (with_reducible exact spec_l04Try.keepB HB68.out hb0) | (with_reducible exact spec_l04Try.keepB HB68.out hb1) | (with_reducible exact spec_l04Try.keepB HB67.out hm0) | (with_reducible exact spec_l04Try.keepB HB67.out hm1) | (with_reducible exact spec_l04Try.keepB HB67.out hm2) | (with_reducible exact spec_l04Try.keepB HB67.out hm3) | (with_reducible exact spec_l04Try.keepB HB67.out hm4) | (with_reducible exact spec_l04Try.keepB HB67.out hm5) | (with_reducible exact spec_l04Try.keepB HB67.out hq6) | (with_reducible exact spec_l04Try.keepB HB67.out hq11) | (with_reducible exact spec_l04Try.keepB HB67.out hqx) | (with_reducible exact spec_l04Try.keepB HB67.out hb0) | (with_reducible exact spec_l04Try.keepB HB67.out hb1) | (with_reducible exact spec_l04Try.keepB HB64.out hm0) | (with_reducible exact spec_l04Try.keepB HB64.out hm1) | (with_reducible exact spec_l04Try.keepB HB64.out hm2) | (with_reducible exact spec_l04Try.keepB HB64.out hm3) | (with_reducible exact spec_l04Try.keepB HB64.out hm4) | (with_reducible exact spec_l04Try.keepB HB64.out hm5) | (with_reducible exact spec_l04Try.keepB HB64.out hq6) | (with_reducible exact spec_l04Try.keepB HB64.out hq11) | (with_reducible exact spec_l04Try.keepB HB64.out hqx) | (with_reducible exact spec_l04Try.keepB HB64.out hb0) | (with_reducible exact spec_l04Try.keepB HB64.out hb1)))) (first | (go_at_call 174; refine (impl_Strand_174.calls Ax cx row row _ (Kd.C_below HRx.out (by (repeat (first | exact Below.refl _ _ | (with_reducible refine below_drew1 ?_) | (with_reducible refine below_alloc ?_ _) | (with_reducible refine pw_below_drewN ?_ _))))) HRc.out HRf.out).mono ?_; rintro e w64 ⟨v64, rfl, ho64, hb64⟩; have HO64 := Aside0.mk (Kd.R_lower ho64 (below_size (w := wr) (by (repeat (first | exact Below.refl _ _ | (with_reducible refine below_drew1 ?_) | (with_reducible refine below_alloc ?_ _) | (with_reducible refine pw_below_drewN ?_ _)))))); have HG64 := Aside0.mk hb64; have HB64 := Aside0.mk (below_then (B := wr.heap.size) (w := wr) (by (repeat (first | exact Below.refl _ _ | (with_reducible refine below_drew1 ?_) | (with_reducible refine below_alloc ?_ _) | (with_reducible refine pw_below_drewN ?_ _)))) (below_size (w := wr) (by (repeat (first | exact Below.refl _ _ | (with_reducible refine below_drew1 ?_) | (with_reducible refine below_alloc ?_ _) | (with_reducible refine pw_below_drewN ?_ _))))) hb64); clear ho64 hb64) | (refine spec_l04Try.app (w0 := wr) ?hw (.tmp 64) (.tmp 66) rfl v64 row [sy] _ _ _ rfl rfl ?bO ?bR ?bB ?bL ?_; (case hw => rfl); (case bO => exact Kd.R_below HO64.out (by (repeat (first | exact Below.refl _ _ | (with_reducible refine below_drew1 ?_) | (with_reducible refine below_alloc ?_ _) | (with_reducible refine pw_below_drewN ?_ _))))); (case bR => (refine spec_l04Try.litS sy ?_); (first | ((repeat (first | exact spec_l04Try.top rfl | exact spec_l04Try.top (by simp) | (with_reducible refine blk_drew ?_) | (with_reducible refine blk_alloc ?_ _))); done) | ((repeat (with_reducible refine blk_drew ?_)); (refine blk_below ?_ HG64.out); ((repeat (first | exact spec_l04Try.top rfl | exact spec_l04Try.top (by simp) | (with_reducible refine blk_drew ?_) | (with_reducible refine blk_alloc ?_ _))); done)))); (case bB => exact (by (repeat (first | exact HB64.out | exact Below.refl _ _ | (with_reducible refine below_drew1 ?_) | (with_reducible refine below_alloc ?_ _) | (with_reducible refine pw_below_drewN ?_ _))))); (case bL => have := HRow.out; simp; omega); intro v67 w67 ho hb hg; rw [HN8.out] at ho; have HO67 := Aside0.mk ho; have HB67 := Aside0.mk hb; clear ho hb hg; obtain ⟨A67, c67, e67⟩ := Kd.R_slice HO67.out; subst e67) | (go_at_call 173; refine (impl_onReel.calls g m0 m1 m2 m3 m4 m5 hold A67 c67 row8 (!sk) _ (Kd.C_below (Kd.R_reads' HO67.out).2.2 (by (repeat (first | exact Below.refl _ _ | (with_reducible refine below_drew1 ?_) | (with_reducible refine below_alloc ?_ _) | (with_reducible refine pw_below_drewN ?_ _))))) (Kd.R_reads' HO67.out).2.1 HOn.out).mono ?_; rintro e w68 ⟨rfl, hb68⟩; have HB68 := Aside0.mk (below_then (B := wr.heap.size) (w := wr) (by (repeat (first | exact HB67.out | exact Below.refl _ _ | (with_reducible refine below_drew1 ?_) | (with_reducible refine below_alloc ?_ _) | (with_reducible refine pw_below_drewN ?_ _)))) (below_size (w := wr) (by (repeat (first | exact HB67.out | exact Below.refl _ _ | (with_reducible refine below_drew1 ?_) | (with_reducible refine below_alloc ?_ _) | (with_reducible refine pw_below_drewN ?_ _))))) hb68); clear hb68))
                    all_goals
                      (try go_wp2)
                      go_meet
                      case rel => exact ⟨rfl, rfl, rfl, by simp, HB68⟩
                case rest  =>
                obtain ⟨rfl, rfl, rfl, rfl, HBc⟩ := hcut
                have HI7 := Aside0.mk (HI.out.next HBc.out)
                have FR7 := Aside0.mk (FR.out.trans (impl_winder_wind.Fr.of_below (P := P1) (gw := gw) HBc.out) (fun _ _ h => h))
                have BB7 := Aside0.mk (blk_below BB6.out HBc.out)
                clear HI FR BB6 HBc hq11 enw hon
                have HWX : Aside0 (wrap64 ((x : Int) + 1) = ((x + 1 : Nat) : Int)) := ⟨by unfold wrap64; omega⟩
                cases sk with
                | true =>
                  have HL := Aside0.mk (HS1.out rfl)
                  clear HS1 HS2 HNW BB7
                  have hwx := HWX.out
                  have hwxI := (impl_winder_wind.wr64 _).trans hwx
                  go_wp2
                  go_roundg g
                  case measure => omega
                  case rel => exact ⟨x + 1, rs1, own1, tries1, _, _, rfl, HL, ⟨by have := HK.out; omega⟩, HI7, FR7⟩
                | false =>
                  have H := HS2.out rfl
                  clear HS1 HS2
                  cases g with
                  | zero => exact absurd H (by simp [impl_winder_wind.st])
                  | succ g =>
                    rw [impl_winder_wind.st] at H
                    obtain ⟨t2, ht2⟩ : ∃ t, wrap64 (tries1 + 1) = t := ⟨_, rfl⟩
                    have ht2I : IntKind.i64.wrap (tries1 + 1) = t2 := (impl_winder_wind.wr64 _).trans ht2
                    rw [ht2] at H
                    have HX := Aside0.mk H
                    clear H
                    have hq9 : wc.cell? ⟨gw, 9, none⟩ = some (.int .i64 tries1) := (blk_cell HI7.out.h 9).trans rfl
                    have hf9 := blk_frozen HI7.out.h 9
                    go_upto_region 10 with (fail)
                    have HI9 := Aside0.mk (HI7.out.setT t2)
                    have FR9 := Aside0.mk (FR7.out.setw 9 (.int .i64 t2))
                    have BB9 := Aside0.mk (blk_far BB7.out (p := ⟨gw, 9, none⟩) hgg.symm (.int .i64 t2))
                    clear hq9 hf9 HI7 FR7 BB7 ht2 ht2I
                    generalize wc.setCell ⟨gw, 9, none⟩ (.int .i64 t2) = W9 at *
                    have hq9 : W9.cell? ⟨gw, 9, none⟩ = some (.int .i64 t2) := (blk_cell HI9.out.h 9).trans rfl
                    have hq10 : W9.cell? ⟨gw, 10, none⟩ = some (.int .i64 budget) := (blk_cell HI9.out.h 10).trans rfl
                    by_cases hb : t2 > budget
                    · have H := HX.out
                      rw [if_pos hb] at H
                      have e := Option.some.inj H
                      simp only [Prod.mk.injEq] at e
                      obtain ⟨rfl, rfl, rfl, rfl, rfl⟩ := e
                      have e0 : decide (t2 > budget) = true := decide_eq_true hb
                      have e2 : decide (budget < t2) = true := decide_eq_true hb
                      clear H HX hb HNW
                      refine wp_region_still_lit (by kernel_rfl) (by kernel_rfl) ?_
                      repeat still_step
                      refine wpStill_nil ?_
                      change Exit.then _ _ _ _ (W9.drewN 1)
                      have HI10 := Aside0.mk (HI9.out.next (pw_below_drewN (Below.refl _ _) 1))
                      have FR10 := Aside0.mk (FR9.out.trans (impl_winder_wind.Fr.of_below (P := P1) (gw := gw) (pw_below_drewN (Below.refl _ _) 1)) (fun _ _ h => h))
                      clear hq9 hq10 HI9 FR9 BB9
                      generalize W9.drewN 1 = W10 at *
                      go_wp2
                      go_ret2
                      exact ⟨rfl, ⟨_, _, HI10.out.mono PE.out (fun z => z.elim NPw.out (fun z => by have := GW.out; omega))⟩, FR3.out.trans FR10.out PL.out⟩
                    · have H := HX.out
                      rw [if_neg hb] at H
                      clear HX
                      have e0 : decide (t2 > budget) = false := decide_eq_false hb
                      have e2 : decide (budget < t2) = false := decide_eq_false hb
                      obtain ⟨⟨q1, q2, q3, q4, q5⟩, hrec, H⟩ := Option.bind_eq_some_iff.mp H
                      simp only at H
                      obtain ⟨rs2, hrs2⟩ : ∃ r_, (if nw = true then rs1 ++ [[]] else rs1) = r_ := ⟨_, rfl⟩
                      rw [hrs2] at hrec
                      have HR2 := Aside0.mk hrs2
                      have HRec := Aside0.mk hrec
                      have HX := Aside0.mk H
                      clear H hrec hrs2 hb
                      refine wp_region_still_lit (by kernel_rfl) (by kernel_rfl) ?_
                      repeat still_step
                      refine wpStill_nil ?_
                      change Exit.then _ _ _ _ (W9.drewN 1)
                      have HI10 := Aside0.mk (HI9.out.next (pw_below_drewN (Below.refl _ _) 1))
                      have FR10 := Aside0.mk (FR9.out.trans (impl_winder_wind.Fr.of_below (P := P1) (gw := gw) (pw_below_drewN (Below.refl _ _) 1)) (fun _ _ h => h))
                      have BB10 := Aside0.mk (blk_below BB9.out (pw_below_drewN (Below.refl _ _) 1))
                      clear hq9 hq10 HI9 FR9 BB9
                      generalize W9.drewN 1 = W10 at *
                      go_upto_if 87 with (fail)
                      go_cut [36, 7, 8, 9, 10] (fun v36 v7 v8 _ _ wd => v36 = .int .i64 (x : Int) ∧ v7 = .int .i64 (x : Int) ∧ v8 = .bool nw ∧ ∃ vR2, Aside0 (impl_winder_wind.Inv w wd gw m0 m1 m2 m3 m4 m5 hold (some adl) c0 l most budget P1 rs2 own1 t2 vR2 vO1) ∧ Aside0 (impl_winder_wind.Fr P1 gw W3 wd))
                      case first  =>
                        clear HNW HRec HX
                        cases nw with
                        | true =>
                          have H9 : Aside0 (rs1 ++ [[]] = rs2) := ⟨HR2.out⟩
                          have hq11 : W10.cell? ⟨gw, 11, none⟩ = some (.slice AR1 rs1.length cR1) := (blk_cell HI10.out.h 11).trans rfl
                          have G4 := Aside0.mk g4
                          clear HR2
                          go_wp2_with (first | ((with_reducible refine gate_builtin (b := .append) (xs := #[.tmp 92, .tmp 93]) rfl ?_); at_builtin; refine Kd.S_append (Kd.slice 159 k159) (w0 := w) w.heap.size rfl (.tmp 92) (.tmp 93) 164 69 (.slice none 0 0) 24 rfl Try.underlying164 impl_winder_wind.infoR rfl (by decide) (by omega) _ rs1 [] [.slice none 0 0] P1 (fun _ => False) rfl rfl ?pM (fun _ h => h.elim) ?aF ?aO ?aB ?aS ?aL ?_; (case pM => exact ⟨_, rfl, Kd.R_nil _ _ _ _ _⟩); (case aF => exact (fun k hk => PF.out k (Nat.le_trans FR10.out.1 hk))); (case aO => exact Kd.S_mono HI10.out.rr (fun k hk => ⟨hk, fun z => z⟩)); (case aB => exact HI10.out.b); (case aS => exact HI10.out.b.size); (case aL => have := G4.out; omega); intro v94 w13 ho hb hg hat; rw [H9.out] at ho; obtain ⟨A94, c94, e94⟩ := Kd.S_slice ho; subst e94; obtain ⟨hI, hF, hS⟩ := HI10.out.grow hb hg ho; have HI13 := Aside0.mk hI; have FR13 := Aside0.mk (FR10.out.trans hF (fun _ _ h => h)); have hw11 := (impl_winder_wind.cell_same (x := 11) hS).trans hq11; have hz11 := (impl_winder_wind.frozen_same (x := 11) hS).trans (blk_frozen HI10.out.h 11); clear ho hb hg hat hI hF hS))
                          go_meet
                          case rel => exact ⟨rfl, rfl, rfl, _, HI13, FR13⟩
                        | false =>
                          obtain rfl : rs1 = rs2 := HR2.out
                          go_wp2
                          go_meet
                          case rel => exact ⟨rfl, rfl, rfl, _, HI10, FR10⟩
                      case rest  =>
                      clear HI10 FR10 BB10
                      obtain ⟨rfl, rfl, rfl, vR2, HI13, FR13⟩ := hcut
                      have hx2 : x < rs2.length := by
                        rw [← HR2.out]
                        by_cases z : x = rs1.length
                        · rw [HNW.out, if_pos (decide_eq_true z)]; simp; omega
                        · rw [HNW.out, if_neg (by simpa using z)]; omega
                      have hl2 : (rs2.getD x []).length ≤ 1000 := by
                        rw [← HR2.out]
                        by_cases z : x = rs1.length
                        · rw [HNW.out, if_pos (decide_eq_true z), z]; simp [List.getD_eq_getElem?_getD]
                        · rw [HNW.out, if_neg (by simpa using z)]; exact g6
                      have HL2 := Aside0.mk hl2
                      have hrec := HRec.out
                      rw [hsy] at hrec
                      obtain ⟨row, hrow⟩ : ∃ r_, rs2.getD x [] = r_ := ⟨_, rfl⟩
                      obtain ⟨row8, hrow8⟩ : ∃ r_, row ++ [sy] = r_ := ⟨_, rfl⟩
                      obtain ⟨rs3, hrs3⟩ : ∃ r_, rs2.set x row8 = r_ := ⟨_, rfl⟩
                      obtain ⟨own2, hown2⟩ : ∃ r_, own1 ++ [(x : Int)] = r_ := ⟨_, rfl⟩
                      rw [hrow, hrow8, hrs3, hown2] at hrec
                      rw [hrow] at hl2
                      have HRow := Aside0.mk hrow
                      have HRow8 := Aside0.mk hrow8
                      have HRs3 := Aside0.mk hrs3
                      have HOwn2 := Aside0.mk hown2
                      have HLr := Aside0.mk hl2
                      have HR3 := Aside0.mk hrec
                      clear hrow8 hrs3 hown2 hrec HRec hl2 HL2
                      have HI14 : Aside0 (impl_winder_wind.Inv w wc.drew gw m0 m1 m2 m3 m4 m5 hold (some adl) c0 l most budget P1 rs2 own1 t2 vR2 vO1) := ⟨HI13.out.next (pw_below_drewN (Below.refl _ _) 1)⟩
                      have FR14 : Aside0 (impl_winder_wind.Fr P1 gw W3 wc.drew) := ⟨FR13.out.trans (impl_winder_wind.Fr.of_below (P := P1) (gw := gw) (pw_below_drewN (Below.refl _ _) 1)) (fun _ _ h => h)⟩
                      have BB14 := Aside0.mk ((FR14.out.2 gb (blk_lt BB3.out) PB.out hgg.symm).trans BB3.out)
                      obtain ⟨gr, capr, oki, Ax, cx, evr, hqx, hfx, hPr, hgr, hRx, hoki, hput⟩ := HI14.out.elem x hx2
                      subst evr
                      rw [hrow] at hqx hRx
                      have hqx0 : wc.cell? ⟨gr, x, none⟩ = some (.slice Ax row.length cx) := hqx
                      have hq11 : wc.cell? ⟨gw, 11, none⟩ = some (.slice (some ⟨gr, 0, none⟩) rs2.length capr) := (blk_cell HI13.out.h 11).trans rfl
                      have hb0 : wc.cell? ⟨gb, 0, none⟩ = some (.int .i16 sy.f0) := (blk_cell BB14.out 0).trans rfl
                      have hb1 : wc.cell? ⟨gb, 1, none⟩ = some (.int .u8 sy.f1) := (blk_cell BB14.out 1).trans rfl
                      have qx0 : (0 : Int) ≤ (x : Int) := by omega
                      have qx1 : (x : Int) < (rs2.length : Int) := by omega
                      have qx3 : ¬ rs2 = [] := fun e => by subst e; simp at hx2
                      have HRx := Aside0.mk hRx
                      have HPr := Aside0.mk hPr
                      have HGr := Aside0.mk hgr
                      have HOki := Aside0.mk hoki
                      have HPut := Aside0.mk hput
                      have HQx := Aside0.mk hqx
                      have HFx := Aside0.mk hfx
                      clear hrow hqx hfx hPr hgr hRx hoki hput
                      go_upto_region 14 with (fail)
                      refine start_ (n := 17) (S := fun w' => w'.cell? ⟨gw, 11, none⟩ = some (.slice (some ⟨gr, 0, none⟩) rs2.length capr) ∧ w'.cell? ⟨gr, x, none⟩ = some (.slice Ax row.length cx) ∧ w'.cell? ⟨gb, 0, none⟩ = some (.int .i16 sy.f0) ∧ w'.cell? ⟨gb, 1, none⟩ = some (.int .u8 sy.f1)) (ds := [16]) #[false, false, false, false, false, false, false, false, false, false, false, false, false, false, false, false, false] (by kernel_rfl) rfl rfl ⟨hq11, hqx0, hb0, hb1⟩ (fun hHeld => ?_)
                      clear hq11 hqx0 hb0 hb1 HI13 FR13
                      generalize wc.drew = W14 at *
                      refine pure_ (i := 0) (N := some 97) (v := ?_) (a' := ?_) #[true, false, false, false, false, false, false, false, false, false, false, false, false, false, false, false, false] rfl rfl (by kernel_rfl) (fun _ _ _ h => h) (Or.inl ⟨by rfl, ?_⟩) ?_ ?_
                      rotate_left
                      · intro w'
                        go_simp
                        with_reducible rfl
                      rotate_left
                      · simp only [Act.put, List.setIfInBounds_toArray, List.set_cons_zero, List.set_cons_succ, i64_w, i32_w]
                        rfl
                      refine pure_ (i := 1) (N := some 98) (v := ?_) (a' := ?_) #[true, true, false, false, false, false, false, false, false, false, false, false, false, false, false, false, false] rfl rfl (by kernel_rfl) (fun _ _ _ h => h) (Or.inl ⟨by rfl, ?_⟩) ?_ ?_
                      rotate_left
                      · intro w'
                        go_simp
                        with_reducible rfl
                      rotate_left
                      · simp only [Act.put, List.setIfInBounds_toArray, List.set_cons_zero, List.set_cons_succ, i64_w, i32_w]
                        rfl
                      refine pure_ (i := 2) (N := some 99) (v := ?_) (a' := ?_) #[true, true, true, false, false, false, false, false, false, false, false, false, false, false, false, false, false] rfl rfl (by kernel_rfl) (fun _ _ _ h => h) (Or.inl ⟨by rfl, ?_⟩) ?_ ?_
                      rotate_left
                      · intro w'
                        go_simp
                        with_reducible rfl
                      rotate_left
                      · simp only [Act.put, List.setIfInBounds_toArray, List.set_cons_zero, List.set_cons_succ, i64_w, i32_w]
                        rfl
                      refine take_ (i := 3) (N := some 100) (v := ?_) (a' := ?_) #[true, true, true, true, false, false, false, false, false, false, false, false, false, false, false, false, false] rfl rfl (by kernel_rfl) (fun _ _ _ h => h) (Or.inl ⟨by rfl, ?_⟩) hHeld ?_ ?_
                      rotate_left
                      · rintro w' ⟨s0, s1, s2, s3⟩
                        go_simp
                        with_reducible rfl
                      rotate_left
                      · simp only [Act.put, List.setIfInBounds_toArray, List.set_cons_zero, List.set_cons_succ, i64_w, i32_w]
                        rfl
                      refine pure_ (i := 4) (N := some 101) (v := ?_) (a' := ?_) #[true, true, true, true, true, false, false, false, false, false, false, false, false, false, false, false, false] rfl rfl (by kernel_rfl) (fun _ _ _ h => h) (Or.inl ⟨by rfl, ?_⟩) ?_ ?_
                      rotate_left
                      · intro w'
                        go_simp
                        with_reducible rfl
                      rotate_left
                      · simp only [Act.put, List.setIfInBounds_toArray, List.set_cons_zero, List.set_cons_succ, i64_w, i32_w]
                        rfl
                      refine pure_ (i := 5) (N := some 102) (v := ?_) (a' := ?_) #[true, true, true, true, true, true, false, false, false, false, false, false, false, false, false, false, false] rfl rfl (by kernel_rfl) (fun _ _ _ h => h) (Or.inl ⟨by rfl, ?_⟩) ?_ ?_
                      rotate_left
                      · intro w'
                        go_simp
                        with_reducible rfl
                      rotate_left
                      · simp only [Act.put, List.setIfInBounds_toArray, List.set_cons_zero, List.set_cons_succ, i64_w, i32_w]
                        rfl
                      refine pure_ (i := 6) (N := some 103) (v := ?_) (a' := ?_) #[true, true, true, true, true, true, true, false, false, false, false, false, false, false, false, false, false] rfl rfl (by kernel_rfl) (fun _ _ _ h => h) (Or.inl ⟨by rfl, ?_⟩) ?_ ?_
                      rotate_left
                      · intro w'
                        go_simp
                        with_reducible rfl
                      rotate_left
                      · simp only [Act.put, List.setIfInBounds_toArray, List.set_cons_zero, List.set_cons_succ, i64_w, i32_w]
                        rfl
                      refine pure_ (i := 7) (N := some 104) (v := ?_) (a' := ?_) #[true, true, true, true, true, true, true, true, false, false, false, false, false, false, false, false, false] rfl rfl (by kernel_rfl) (fun _ _ _ h => h) (Or.inl ⟨by rfl, ?_⟩) ?_ ?_
                      rotate_left
                      · intro w'
                        go_simp
                        with_reducible rfl
                      rotate_left
                      · simp only [Act.put, List.setIfInBounds_toArray, List.set_cons_zero, List.set_cons_succ, i64_w, i32_w]
                        rfl
                      refine take_ (i := 8) (N := some 105) (v := ?_) (a' := ?_) #[true, true, true, true, true, true, true, true, true, false, false, false, false, false, false, false, false] rfl rfl (by kernel_rfl) (fun _ _ _ h => h) (Or.inl ⟨by rfl, ?_⟩) hHeld ?_ ?_
                      rotate_left
                      · rintro w' ⟨s0, s1, s2, s3⟩
                        go_simp
                        with_reducible rfl
                      rotate_left
                      · simp only [Act.put, List.setIfInBounds_toArray, List.set_cons_zero, List.set_cons_succ, i64_w, i32_w]
                        rfl
                      refine pure_ (i := 9) (N := some 106) (v := ?_) (a' := ?_) #[true, true, true, true, true, true, true, true, true, true, false, false, false, false, false, false, false] rfl rfl (by kernel_rfl) (fun _ _ _ h => h) (Or.inl ⟨by rfl, ?_⟩) ?_ ?_
                      rotate_left
                      · intro w'
                        go_simp
                        with_reducible rfl
                      rotate_left
                      · simp only [Act.put, List.setIfInBounds_toArray, List.set_cons_zero, List.set_cons_succ, i64_w, i32_w]
                        rfl
                      refine pure_ (i := 10) (N := some 107) (v := ?_) (a' := ?_) #[true, true, true, true, true, true, true, true, true, true, true, false, false, false, false, false, false] rfl rfl (by kernel_rfl) (fun _ _ _ h => h) (Or.inl ⟨by rfl, ?_⟩) ?_ ?_
                      rotate_left
                      · intro w'
                        go_simp
                        with_reducible rfl
                      rotate_left
                      · simp only [Act.put, List.setIfInBounds_toArray, List.set_cons_zero, List.set_cons_succ, i64_w, i32_w]
                        rfl
                      refine take_ (i := 11) (N := some 108) (v := ?_) (a' := ?_) #[true, true, true, true, true, true, true, true, true, true, true, true, false, false, false, false, false] rfl rfl (by kernel_rfl) (fun _ _ _ h => h) (Or.inl ⟨by rfl, ?_⟩) hHeld ?_ ?_
                      rotate_left
                      · rintro w' ⟨s0, s1, s2, s3⟩
                        go_simp
                        with_reducible rfl
                      rotate_left
                      · simp only [Act.put, List.setIfInBounds_toArray, List.set_cons_zero, List.set_cons_succ, i64_w, i32_w]
                        rfl
                      refine take_ (i := 12) (N := some 109) (v := ?_) (a' := ?_) #[true, true, true, true, true, true, true, true, true, true, true, true, true, false, false, false, false] rfl rfl (by kernel_rfl) (fun _ _ _ h => h) (Or.inl ⟨by rfl, ?_⟩) hHeld ?_ ?_
                      rotate_left
                      · rintro w' ⟨s0, s1, s2, s3⟩
                        go_simp
                        with_reducible rfl
                      rotate_left
                      · simp only [Act.put, List.setIfInBounds_toArray, List.set_cons_zero, List.set_cons_succ, i64_w, i32_w]
                        rfl
                      refine one_ (i := 13) (N := some 110) #[true, true, true, true, true, true, true, true, true, true, true, true, true, true, false, false, false] rfl rfl (by kernel_rfl) (by decide) (fun K hK => ?_)
                      refine value_ (w1 := ?_) (v := ?_) (by rfl) rfl ?_ ?_
                      rotate_left 2
                      · go_simp
                        constructor
                        · rfl
                        · rfl
                      refine hK.out _ _ ⟨spec_l04Try.keepA hHeld.1, spec_l04Try.keepA hHeld.2.1, spec_l04Try.keepA hHeld.2.2.1, spec_l04Try.keepA hHeld.2.2.2⟩ (fun hHeld => ?_)
                      clear hK K
                      refine norm_ (a' := ?_) ?_ ?_
                      rotate_left
                      · show Act.put _ (some 110) _ = _
                        simp only [Act.put, List.setIfInBounds_toArray, List.set_cons_zero, List.set_cons_succ, i64_w, i32_w]
                        rfl
                      refine one_ (i := 14) (N := some 111) #[true, true, true, true, true, true, true, true, true, true, true, true, true, true, true, false, false] rfl rfl (by kernel_rfl) (by decide) (fun K hK => ?_)
                      refine impl_winder_wind.app (w0 := w) (by rfl) (.tmp 108) (.tmp 110) rfl (.slice Ax row.length cx) row [sy] _ _ _ (fun k => oki k ∨ W14.heap.size ≤ k) rfl rfl ?aO ?aR ?aF ?aB ?aL ?_
                      (case aO => exact Kd.R_alloc (Kd.R_mono HRx.out (fun _ hk => .inl hk)) _)
                      (case aR => exact spec_l04Try.litS sy (blk_new _ _))
                      (case aF => exact (fun k hk => .inr (by simp at hk; omega)))
                      (case aB => exact below_alloc HI14.out.b _)
                      (case aL => have := HLr.out; omega)
                      intro v111 w15 ho hb hg
                      rw [HRow8.out] at ho
                      obtain ⟨A111, c111, e111⟩ := Kd.R_slice ho
                      subst e111
                      have hsame : ∀ k, k < W14.heap.size → ¬ oki k → w15.heap[k]? = W14.heap[k]? := fun k hk hn => (hg.block k (by simp; omega) (fun e => hn (HRx.out.1 k e.symm))).trans ((below_alloc (Below.refl W14.heap.size W14) _).block k hk)
                      have hsz : W14.heap.size ≤ w15.heap.size := by have := hg.size; simp at this; omega
                      have hgr15 : w15.heap[gr]? = W14.heap[gr]? := hsame gr HGr.out (fun z => (HOki.out gr z).2.1 rfl)
                      have hq15 : w15.cell? ⟨gr, x, none⟩ = some (.slice Ax row.length cx) := (impl_winder_wind.cell_same hgr15).trans HQx.out
                      have hz15 : w15.frozen? ⟨gr, x, none⟩ = false := (impl_winder_wind.frozen_same hgr15).trans HFx.out
                      have hgw15 := hsame gw (blk_lt HI14.out.h) (fun z => HI14.out.np (HOki.out gw z).1)
                      have hgb15 := hsame gb (blk_lt BB14.out) (fun z => PB.out (HOki.out gb z).1)
                      have hP := HPut.out w15 (.slice A111 row8.length c111) row8 hsz hb hsame (fun k hk => PF.out k (Nat.le_trans FR14.out.1 hk)) ho
                      rw [HRs3.out] at hP
                      have HI15 := Aside0.mk hP.1
                      have FR15 : Aside0 (impl_winder_wind.Fr P1 gw W3 (w15.setCell ⟨gr, x, none⟩ (.slice A111 row8.length c111))) := ⟨FR14.out.trans hP.2 (fun _ _ h => h)⟩
                      refine hK.out _ _ ⟨(impl_winder_wind.cell_same hgw15).trans ((blk_cell HI14.out.h 11).trans rfl), hq15, (impl_winder_wind.cell_same hgb15).trans ((blk_cell BB14.out 0).trans rfl), (impl_winder_wind.cell_same hgb15).trans ((blk_cell BB14.out 1).trans rfl)⟩ (fun hHeld => ?_)
                      clear hK K hP ho hb hg hsame hsz hgr15 hgw15 hgb15 HPut HRx HPr HGr HOki HQx HFx HI14 FR14 BB14
                      refine norm_ (a' := ?_) ?_ ?_
                      rotate_left
                      · show Act.put _ (some 111) _ = _
                        simp only [Act.put, List.setIfInBounds_toArray, List.set_cons_zero, List.set_cons_succ, i64_w, i32_w]
                        rfl
                      refine pure_ (i := 15) (N := some 112) (v := ?_) (a' := ?_) #[true, true, true, true, true, true, true, true, true, true, true, true, true, true, true, true, false] rfl rfl (by kernel_rfl) (fun _ _ _ h => h) (Or.inl ⟨by rfl, ?_⟩) ?_ ?_
                      rotate_left
                      · intro w'
                        go_simp
                        with_reducible rfl
                      rotate_left
                      · simp only [Act.put, List.setIfInBounds_toArray, List.set_cons_zero, List.set_cons_succ, i64_w, i32_w]
                        rfl
                      refine last_ (i := 16) (N := none) #[true, true, true, true, true, true, true, true, true, true, true, true, true, true, true, true, true] rfl rfl (by kernel_rfl) (by decide) (fun K hK => ?_)
                      refine skip_ (w1 := ?_) (by rfl) rfl ?_ ?_
                      rotate_left
                      · go_simp
                        rfl
                      refine hK.out _ _ ?_
                      clear hK K
                      refine done_ (by kernel_rfl) ?_
                      go_upto_region 15 with (fail)
                      clear hq15 hz15 hHeld qx1 qx3
                      generalize w15.setCell ⟨gr, x, none⟩ (.slice A111 row8.length c111) = W16 at *
                      obtain ⟨AO, cO, eO⟩ := Kd.R_slice HI15.out.ro
                      subst eO
                      have hq12 : W16.cell? ⟨gw, 12, none⟩ = some (.slice AO own1.length cO) := (blk_cell HI15.out.h 12).trans rfl
                      go_upto_region 16 with (first | ((with_reducible refine gate_builtin (b := .append) (xs := #[.tmp 117, .tmp 119]) rfl ?_); at_builtin; refine Kd.R_append_rows (Kd.int .i64) (w0 := w) w.heap.size rfl (.tmp 117) (.tmp 119) 25 2 (.int .i64 0) 8 rfl Try.underlying25 spec_l04Try.info rfl (by decide) (by omega) _ own1 [(x : Int)] _ _ _ P1 (fun _ => False) rfl rfl ?aO ?aR (fun _ _ h => h) (fun _ h => h.elim) ?aF ?aB ?aS ?aL ?_; (case aO => exact Kd.R_alloc HI15.out.ro _); (case aR => exact spec_l04Try.litI _ (blk_new _ _)); (case aF => exact (fun k hk => PF.out k (by have := FR15.out.1; simp at hk; omega))); (case aB => exact below_alloc HI15.out.b _); (case aS => exact (below_alloc HI15.out.b _).size); (case aL => have := G5.out; omega); intro v120 w17 ho hb hg hat; rw [HOwn2.out] at ho; obtain ⟨A120, c120, e120⟩ := Kd.R_slice ho; subst e120; obtain ⟨hI, hF, hS⟩ := HI15.out.growO hb ((World.grownBy_alloc _ _ _).trans hg) ho; have HI17 := Aside0.mk hI; have FR17 := Aside0.mk (FR15.out.trans hF (fun _ _ h => h)); have hw12 := (impl_winder_wind.cell_same (x := 12) hS).trans hq12; have hz12 := (impl_winder_wind.frozen_same (x := 12) hS).trans (blk_frozen HI15.out.h 12); clear ho hb hg hat hI hF hS))
                      clear hq12 hw12 hz12 HI15 FR15
                      generalize w17.setCell ⟨gw, 12, none⟩ (.slice A120 own2.length c120) = W18 at *
                      have hwi : wrap64 ((i : Int) + 1) = ((i + 1 : Nat) : Int) := by unfold wrap64; omega
                      have hwiI : IntKind.i64.wrap ((i : Int) + 1) = ((i + 1 : Nat) : Int) := (impl_winder_wind.wr64 _).trans hwi
                      cases q1 with
                      | true =>
                        have H := HX.out
                        rw [if_pos (Or.inl rfl)] at H
                        have e := Option.some.inj H
                        simp only [Prod.mk.injEq] at e
                        obtain ⟨rfl, rfl, rfl, rfl, rfl⟩ := e
                        clear H HX
                        go_wp2_with (first | (go_at_call 123; refine (IHa.out g (by have := HK.out; omega) (i + 1) rs3 own2 t2 P1 _ _ _ true q2 q3 q4 q5 HI17.out HR3.out).mono ?_; rintro e w19 ⟨rfl, ⟨vR4, vO4, hI19⟩, hF19⟩; have HI19 := Aside0.mk (hI19.mono (fun k hk => hk.elim (fun z => z.1) (fun z => PF.out k (by have := FR17.out.1; omega))) HI17.out.np); have FR19 := Aside0.mk (FR17.out.trans hF19 (fun k _ h => h.1)); clear hI19 hF19))
                        go_ret2
                        exact ⟨rfl, ⟨_, _, HI19.out.mono PE.out (fun z => z.elim NPw.out (fun z => by have := GW.out; omega))⟩, FR3.out.trans FR19.out PL.out⟩
                      | false =>
                        cases q2 with
                        | false =>
                          have H := HX.out
                          rw [if_pos (Or.inr rfl)] at H
                          have e := Option.some.inj H
                          simp only [Prod.mk.injEq] at e
                          obtain ⟨rfl, rfl, rfl, rfl, rfl⟩ := e
                          clear H HX
                          go_wp2_with (first | (go_at_call 123; refine (IHa.out g (by have := HK.out; omega) (i + 1) rs3 own2 t2 P1 _ _ _ false false q3 q4 q5 HI17.out HR3.out).mono ?_; rintro e w19 ⟨rfl, ⟨vR4, vO4, hI19⟩, hF19⟩; have HI19 := Aside0.mk (hI19.mono (fun k hk => hk.elim (fun z => z.1) (fun z => PF.out k (by have := FR17.out.1; omega))) HI17.out.np); have FR19 := Aside0.mk (FR17.out.trans hF19 (fun k _ h => h.1)); clear hI19 hF19))
                          go_ret2
                          exact ⟨rfl, ⟨_, _, HI19.out.mono PE.out (fun z => z.elim NPw.out (fun z => by have := GW.out; omega))⟩, FR3.out.trans FR19.out PL.out⟩
                        | true =>
                          have H := HX.out
                          rw [if_neg (show ¬ ((false : Bool) = true ∨ (true : Bool) = false) from by simp)] at H
                          clear HX
                          by_cases hgd : i ≤ q4.length ∧ x < q3.length ∧ 0 < (q3.getD x []).length ∧ (q3.getD x []).length ≤ 2000
                          · rw [if_pos hgd] at H
                            obtain ⟨k1, k2, k3, k4⟩ := hgd
                            have HX := Aside0.mk H
                            have K1 := Aside0.mk k1
                            have K2 := Aside0.mk k2
                            have K3 := Aside0.mk k3
                            have K4 := Aside0.mk k4
                            clear H k1 k2 k3 k4
                            go_upto_region 19 with (first | (go_at_call 123; refine (IHa.out g (by have := HK.out; omega) (i + 1) rs3 own2 t2 P1 _ _ _ false true q3 q4 q5 HI17.out HR3.out).mono ?_; rintro e w19 ⟨rfl, ⟨vR4, vO4, hI19⟩, hF19⟩; have HI19 := Aside0.mk (hI19.mono (fun k hk => hk.elim (fun z => z.1) (fun z => PF.out k (by have := FR17.out.1; omega))) HI17.out.np); have FR19 := Aside0.mk (FR17.out.trans hF19 (fun k _ h => h.1)); clear hI19 hF19))
                            clear hwi hwiI
                            obtain ⟨AO4, cO4, eO4⟩ := Kd.R_slice HI19.out.ro
                            subst eO4
                            have hq12 : w19.cell? ⟨gw, 12, none⟩ = some (.slice AO4 q4.length cO4) := (blk_cell HI19.out.h 12).trans rfl
                            have hz12 := blk_frozen HI19.out.h 12
                            obtain ⟨i0, hi0, _, _, _⟩ := info_parts spec_l04Try.info
                            have hcut12 := cut_to (P := Try.prog) 25 2 .i64 Try.underlying25 hi0 AO4 q4.length cO4 (i : Int) (by omega) (by have := K1.out; omega) (Kd.R_reads' HI19.out.ro).2.1
                            rw [Int.toNat_natCast] at hcut12
                            go_upto_region 20 with (fail)
                            have HI20 := Aside0.mk (HI19.out.cutO K1.out)
                            have FR20 := Aside0.mk (FR19.out.setw 12 (.slice AO4 i cO4))
                            clear hq12 hz12 hcut12 hi0 HI19 FR19 HI17 FR17
                            generalize w19.setCell ⟨gw, 12, none⟩ (.slice AO4 i cO4) = W20 at *
                            obtain ⟨own5, hown5⟩ : ∃ r_, q4.take i = r_ := ⟨_, rfl⟩
                            rw [hown5] at HI20
                            have HOwn5 := Aside0.mk hown5
                            have HI21 := Aside0.mk (HI20.out.next (pw_below_drewN (Below.refl _ _) 1))
                            have FR21 := Aside0.mk (FR20.out.trans (impl_winder_wind.Fr.of_below (P := P1) (gw := gw) (pw_below_drewN (Below.refl _ _) 1)) (fun _ _ h => h))
                            clear hown5 FR20
                            obtain ⟨gr5, cap5, oki5, A5, c5, ev5, hq5, hf5, hP5, hg5, hR5, ho5, hput5⟩ := HI21.out.elem x K2.out
                            subst ev5
                            obtain ⟨row5, hrow5⟩ : ∃ r_, q3.getD x [] = r_ := ⟨_, rfl⟩
                            obtain ⟨m5_, hm5⟩ : ∃ m_, row5.length - 1 = m_ := ⟨_, rfl⟩
                            rw [hrow5] at hq5 hR5
                            have k3 := K3.out
                            have k4 := K4.out
                            rw [hrow5] at k3 k4
                            have HRow5 := Aside0.mk hrow5
                            have HM5 := Aside0.mk hm5
                            have hwr : wrap64 ((row5.length : Int) - 1) = (m5_ : Int) := by unfold wrap64; omega
                            have hwrI : IntKind.i64.wrap ((row5.length : Int) - 1) = (m5_ : Int) := (impl_winder_wind.wr64 _).trans hwr
                            obtain ⟨i0, hi0, _, _, _⟩ := info_parts spec_l04Try.infoS
                            have hcut5 := cut_to (P := Try.prog) 69 159 .i64 Try.underlying69 hi0 A5 row5.length c5 (m5_ : Int) (Int.natCast_nonneg _) (by clear hwr hwrI; omega) (Kd.R_reads' hR5).2.1
                            rw [Int.toNat_natCast] at hcut5
                            have HR5 := Aside0.mk hR5
                            have HPut5 := Aside0.mk hput5
                            have HK4 := Aside0.mk (show m5_ ≤ row5.length from by clear hwr hwrI; omega)
                            have hq50 : W20.cell? ⟨gr5, x, none⟩ = some (.slice A5 row5.length c5) := hq5
                            have hq11 : W20.cell? ⟨gw, 11, none⟩ = some (.slice (some ⟨gr5, 0, none⟩) q3.length cap5) := (blk_cell HI20.out.h 11).trans rfl
                            have k2 := K2.out
                            have qx1 : (x : Int) < (q3.length : Int) := Int.ofNat_lt.mpr k2
                            have qx3 : ¬ q3 = [] := fun e => by subst e; simp at k2
                            clear hrow5 hm5 hi0 hP5 hg5 hR5 ho5 hput5 k3 k4
                            go_still_tail 23, (by kernel_rfl)
                            change wpList _ _ _ _ _ (W20.drewN 1)
                            clear hq50 hq11 hwr hwrI hcut5 HI20
                            generalize W20.drewN 1 = W21 at *
                            go_upto_region 21 with (fail)
                            have hP := HPut5.out W21 (.slice A5 m5_ c5) (row5.take m5_) (Nat.le_refl _) HI21.out.b (fun _ _ _ => rfl) (fun k hk => PF.out k (Nat.le_trans FR21.out.1 hk)) (Kd.R_mono (Kd.R_take HR5.out HK4.out) (fun _ hk => .inl hk))
                            obtain ⟨rs6, hrs6⟩ : ∃ r_, q3.set x (row5.take m5_) = r_ := ⟨_, rfl⟩
                            have hl6 : q3.length = rs6.length := by rw [← hrs6, List.length_set]
                            rw [hrs6] at hP
                            have hX := HX.out
                            rw [HRow5.out, HM5.out, hrs6, HOwn5.out] at hX
                            have k2 := K2.out
                            rw [hl6] at hP k2
                            have HI22 := Aside0.mk hP.1
                            have FR22 := Aside0.mk (FR21.out.trans hP.2 (fun _ _ h => h))
                            have K2 := Aside0.mk (Nat.le_of_lt k2)
                            clear hP hrs6 hl6 HX HRow5 HM5 HOwn5 HPut5 HR5 HK4 HI21 FR21 k2 qx1 qx3 hq5 hf5
                            generalize W21.setCell ⟨gr5, x, none⟩ (.slice A5 m5_ c5) = W22 at *
                            cases nw with
                            | true =>
                              rw [if_pos rfl] at hX
                              have HLx := Aside0.mk hX
                              have hq11 : W22.cell? ⟨gw, 11, none⟩ = some (.slice (some ⟨gr5, 0, none⟩) rs6.length cap5) := (blk_cell HI22.out.h 11).trans rfl
                              have hz11 := blk_frozen HI22.out.h 11
                              obtain ⟨i0, hi0, _, _, _⟩ := info_parts impl_winder_wind.infoR
                              have hcut11 := cut_to (P := Try.prog) 164 69 .i64 Try.underlying164 hi0 (some ⟨gr5, 0, none⟩) rs6.length cap5 (x : Int) (Int.natCast_nonneg _) (by have := K2.out; omega) (Kd.S_reads' HI22.out.rr).2.1
                              rw [Int.toNat_natCast] at hcut11
                              clear hX
                              go_upto_region 23 with (fail)
                              have HI23 := Aside0.mk (HI22.out.cutR K2.out)
                              have FR23 := Aside0.mk (FR22.out.setw 11 (.slice (some ⟨gr5, 0, none⟩) x cap5))
                              clear hq11 hz11 hcut11 hi0 HI22 FR22
                              generalize W22.setCell ⟨gw, 11, none⟩ (.slice (some ⟨gr5, 0, none⟩) x cap5) = W23 at *
                              have hwx := HWX.out
                              have hwxI := (impl_winder_wind.wr64 _).trans hwx
                              go_wp2
                              go_roundg g
                              case measure => omega
                              case rel => exact ⟨x + 1, rs6.take x, own5, q5, _, _, rfl, HLx, ⟨by clear hwx hwxI; have := HK.out; omega⟩, HI23, FR23⟩
                            | false =>
                              rw [if_neg (by decide)] at hX
                              have HLx := Aside0.mk hX
                              have HI23 := HI22
                              have FR23 := FR22
                              clear hX HI22 FR22
                              have hwx := HWX.out
                              have hwxI := (impl_winder_wind.wr64 _).trans hwx
                              go_wp2
                              go_roundg g
                              case measure => omega
                              case rel => exact ⟨x + 1, rs6, own5, q5, _, _, rfl, HLx, ⟨by clear hwx hwxI; have := HK.out; omega⟩, HI23, FR23⟩
                          · rw [if_neg hgd] at H; cases H
              · rw [if_neg hg] at H; cases H
            · rw [if_neg hx] at H
              have e := Option.some.inj H
              simp only [Prod.mk.injEq] at e
              obtain ⟨rfl, rfl, rfl, rfl, rfl⟩ := e
              have d1 : decide ((x : Int) < bd) = false := decide_eq_false hx
              clear H
              go_wp2
              go_ret2
              exact ⟨rfl, ⟨_, _, HI.out.mono PE.out (fun z => z.elim NPw.out (fun z => by have := GW.out; omega))⟩, FR3.out.trans FR.out PL.out⟩
      · rw [if_neg h2] at h; cases h

end Go.Proofs.Ytjhjabibkkhmjaa.XFnExactFewestReels
